/- Append onto a row of the call's own, from whatever is read; a slice kept in one cell of a block (a writer). No program in sight. -/
import Derived.Test.YthkcifdjfoggeaaStr
import Derived.Lib.AppendStr
namespace Go
open Go.RowKit

/-- What the table says of a slice type: its element's number, cells and bytes. -/
def ElemType (P : Program) (t e : TypeId) (size bytes : Nat) : Prop :=
  ∃ (i : TypeInfo) (z : Value), P.underlying t = some (.slice e) ∧ P.info? e = some i ∧ i.zero = some z ∧ i.size = size ∧ i.bytes = bytes ∧ z.cells.size = size ∧ 0 < size

theorem elemType_mk {P : Program} {t e : TypeId} {z : Value} {size bytes : Nat} (h1 : P.underlying t = some (.slice e))
    (h2 : (P.info? e).map (fun i => (i.zero, i.size, i.bytes)) = some (some z, size, bytes)) (h3 : z.cells.size = size) (h4 : 0 < size) : ElemType P t e size bytes := by
  obtain ⟨i, hi, hz0, hz1, hz2⟩ := info_parts h2
  exact ⟨i, z, h1, hi, hz0, hz1, hz2, h3, h4⟩

theorem Reads.fresh (w : World) (size n : Nat) (e : TypeId) (l : List Value) (hl : l.length = n * size) : Reads (w.alloc (.cells l.toArray e)) size (.slice (some ⟨w.heap.size, 0, none⟩) n n) n l := by
  refine ⟨hl, some ⟨w.heap.size, 0, none⟩, n, rfl, Nat.le_refl _, fun _ => ⟨w.heap.size, 0, rfl, by simp, fun j u hu => ?_⟩⟩
  rw [Nat.zero_add, World.cell?_alloc_new]
  simpa using hu
theorem Reads.fresh_drew (w : World) (size n : Nat) (e : TypeId) (l : List Value) (hl : l.length = n * size) : Reads (w.alloc (.cells l.toArray e)).drew size (.slice (some ⟨w.heap.size, 0, none⟩) n n) n l :=
  (Reads.fresh w size n e l hl).ext ((Ext.refl _).drew)

section
variable {P : Program} (w : World)

theorem run_append_reads {t ty e : TypeId} {size bytes : Nat} (het : ElemType P t e size bytes) {base : Nat}
    {v : Value} {n : Nat} {xs : List Value} (hown : w.ownsRow base e size v n xs) {sv : Value} {m : Nat} {news : List Value} (hr : Reads w size sv m news) (h1 : ∀ u ∈ news, u.oneCell' = true)
    (hbytes : (n + m) * bytes ≤ 140737488355328) (h63 : n + m ≤ maxLen) (hbase : base ≤ w.heap.size) :
    ∃ A c w', (Builtin.append_ #[t, t] ty #[v, sv]).run P w = .ok (.slice A (n + m) c) w' ∧ w'.ownsRow base e size (.slice A (n + m) c) (n + m) (xs ++ news) ∧ w.grownBy w' v.ownBlock ∧
      ((Value.slice A (n + m) c).ownBlock = v.ownBlock ∨ (Value.slice A (n + m) c).ownBlock = some w.heap.size) := by
  suffices ∃ v' w', (Builtin.append_ #[t, t] ty #[v, sv]).run P w = .ok v' w' ∧ w'.ownsRow base e size v' (n + m) (xs ++ news) ∧ w.grownBy w' v.ownBlock ∧
      (v'.ownBlock = v.ownBlock ∨ v'.ownBlock = some w.heap.size) by
    obtain ⟨v', w', h1, h2, h3⟩ := this
    obtain ⟨A, c, rfl⟩ : ∃ A c, v' = .slice A (n + m) c := by
      rcases h2.2 with ⟨rfl, h0⟩ | ⟨g, cap, cur, rfl, _⟩
      · exact ⟨none, 0, by rw [h0]⟩
      · exact ⟨_, _, rfl⟩
    exact ⟨A, c, w', h1, h2, h3⟩
  obtain ⟨i, z, ht, hi, hz, hsz, hby, hzs, hpos⟩ := het
  obtain ⟨hl, A, c, rfl, _, h2⟩ := hr
  cases A with
  | none =>
    have hm : m = 0 := by
      rcases Nat.eq_zero_or_pos m with h0 | h0
      · exact h0
      · obtain ⟨b, off, h, _⟩ := h2 h0
        cases h
    subst hm
    have hn : news = [] := List.eq_nil_of_length_eq_zero (by simpa using hl)
    subst hn
    refine ⟨v, w, ?_, by simpa using hown, ⟨rfl, rfl, rfl, Nat.le_refl _, fun _ _ _ => rfl⟩, .inl rfl⟩
    rcases hown.2 with ⟨rfl, rfl⟩ | ⟨g, cap, cur, rfl, _, _, hnc, _⟩
    · simp [Builtin.append_, run_underlying ht, sizeOf, typeInfo, hi, Builtin.lenOf, Builtin.firstCells]
    · simp [Builtin.append_, run_underlying ht, sizeOf, typeInfo, hi, Builtin.lenOf, Builtin.firstCells, hnc, storeCells]
  | some ad =>
    have hcells : ∀ j u, news[j]? = some u → w.cell? (ad.add j) = some u := by
      intro j u hu
      rcases Nat.eq_zero_or_pos m with h0 | h0
      · subst h0
        have hn : news = [] := List.eq_nil_of_length_eq_zero (by simpa using hl)
        subst hn
        simp at hu
      · obtain ⟨b, off, h, _, hc⟩ := h2 h0
        injection h with h
        subst h
        rw [addr_add]
        exact hc j u hu
    obtain ⟨v', w', hrun, ho, hg, _, hat⟩ := run_append_own_at (P := P) w base t ty e i z size bytes ht hi hz hsz hby hzs hpos v n xs hown ad m c news hl hcells h1 h63 hbytes hbase
    exact ⟨v', w', hrun, ho, hg, hat⟩

theorem wp_append_reads {o : Oper} {a : Act} {K : Act → World → Prop} {Q : Exit → Act → World → Prop} (s x : Operand) {t e : TypeId}
    (ho : o.op = .call { callee := .builtin .append, args := #[s, x], argTypes := #[t, t] }) {size bytes : Nat} (het : ElemType P t e size bytes) {base : Nat}
    {v : Value} {n : Nat} {xs : List Value} (hs : a.eval s = v) (hown : w.ownsRow base e size v n xs) {sv : Value} {m : Nat} {news : List Value} (hx : a.eval x = sv) (hr : Reads w size sv m news) (h1 : ∀ u ∈ news, u.oneCell' = true)
    (hbytes : (n + m) * bytes ≤ 140737488355328) (h63 : n + m ≤ maxLen) (hbase : base ≤ w.heap.size)
    (h : ∀ A c w', w'.ownsRow base e size (.slice A (n + m) c) (n + m) (xs ++ news) → w.grownBy w' v.ownBlock → ((Value.slice A (n + m) c).ownBlock = v.ownBlock ∨ (Value.slice A (n + m) c).ownBlock = some w.heap.size) → K (a.put o.dst (.slice A (n + m) c)) w') : o.wp P a w K Q := by
  obtain ⟨A, c, w', hrun, h2, h3, h4⟩ := run_append_reads (P := P) w (ty := o.type) het hown hr h1 hbytes h63 hbase
  unfold Oper.wp execOp
  simp only [ho, resolve, invoke, builtin, Sem.run_bind, Sem.run_pure, Result.andThen_ok, List.map_toArray, List.map_cons, List.map_nil, hs, hx, hrun]
  exact h A c w' h2 h3 h4

theorem wpList_append_reads {ops : Array Oper} {rest : List Oper} {o : Oper} {a : Act} {Q : Exit → Act → World → Prop} (hgd : o.guard = none) (s x : Operand) {t e : TypeId}
    (ho : o.op = .call { callee := .builtin .append, args := #[s, x], argTypes := #[t, t] }) {size bytes : Nat} (het : ElemType P t e size bytes) {base : Nat}
    {v : Value} {n : Nat} {xs : List Value} (hs : a.eval s = v) (hown : w.ownsRow base e size v n xs) {sv : Value} {m : Nat} {news : List Value} (hx : a.eval x = sv) (hr : Reads w size sv m news) (h1 : ∀ u ∈ news, u.oneCell' = true)
    (hbytes : (n + m) * bytes ≤ 140737488355328) (h63 : n + m ≤ maxLen) (hbase : base ≤ w.heap.size)
    (h : ∀ A c w', w'.ownsRow base e size (.slice A (n + m) c) (n + m) (xs ++ news) → w.grownBy w' v.ownBlock → ((Value.slice A (n + m) c).ownBlock = v.ownBlock ∨ (Value.slice A (n + m) c).ownBlock = some w.heap.size) → wpList P ops Q rest (a.put o.dst (.slice A (n + m) c)) w') : wpList P ops Q (o :: rest) a w :=
  wpList_plain hgd fun _ hK => wp_append_reads w s x ho het hs hown hx hr h1 hbytes h63 hbase fun A c w' h2 h3 h4 => hK _ _ (h A c w' h2 h3 h4)
end

theorem oneCell_int (k : IntKind) (l : List Int) : ∀ u ∈ l.map (Value.int k), u.oneCell' = true := by
  intro u hu
  obtain ⟨n, _, rfl⟩ := List.mem_map.1 hu
  rfl
theorem oneCell_bytes (l : List UInt8) : ∀ u ∈ byteCellsV l, u.oneCell' = true := by
  intro u hu
  obtain ⟨n, _, rfl⟩ := List.mem_map.1 hu
  rfl

/-- Block b is one cell that holds a slice value v, which owns these bytes in a row of its own. -/
structure BufAt (w : World) (T e : TypeId) (b : Nat) (v : Value) (base : Nat) (l : List UInt8) : Prop where
  cell : w.heap[b]? = some (.cells #[v] T (0, 0))
  own : ∃ n, w.ownsRow base e 1 v n (byteCellsV l)
  apart : v.ownBlock ≠ some b

/-- But for block b and one row nothing that was there has turned. -/
structure Near (w w' : World) (b : Nat) (row : Option Nat) : Prop where
  os : w'.os = w.os
  tape : w'.tape = w.tape
  output : w'.output = w.output
  size : w.heap.size ≤ w'.heap.size
  block : ∀ k, k < w.heap.size → k ≠ b → some k ≠ row → w'.heap[k]? = w.heap[k]?

theorem Near.refl (w : World) (b : Nat) (row : Option Nat) : Near w w b row := ⟨rfl, rfl, rfl, Nat.le_refl _, fun _ _ _ _ => rfl⟩
theorem Near.trans {a c d : World} {b : Nat} {r s : Option Nat} (h : Near a c b r) (k : Near c d b s) (hs : ∀ g, s = some g → r = some g ∨ a.heap.size ≤ g) : Near a d b r :=
  ⟨k.os.trans h.os, k.tape.trans h.tape, k.output.trans h.output, Nat.le_trans h.size k.size, fun i hi hb hr => by
    rw [k.block i (Nat.lt_of_lt_of_le hi h.size) hb (fun e => by rcases hs i e.symm with h1 | h1; exact hr h1.symm; omega), h.block i hi hb hr]⟩
theorem Near.of_grown {w w' : World} {b : Nat} {r : Option Nat} (h : w.grownBy w' r) : Near w w' b r := ⟨h.os, h.tape, h.output, h.size, fun k hk _ hr => h.block k hk hr⟩
theorem Near.of_ext {w w' : World} (h : Ext w w') (b : Nat) (r : Option Nat) : Near w w' b r := ⟨h.below.os, h.below.tape, h.below.output, h.size, fun k hk _ _ => h.below.block k hk⟩
theorem Near.store {w : World} {b : Nat} {r : Option Nat} (o : Nat) (v : Value) : Near w (w.setCell ⟨b, o, none⟩ v) b r :=
  ⟨rfl, rfl, rfl, by simp [World.setCell], fun k _ hb _ => Below.heap_setCell _ _ _ _ hb⟩
theorem Near.ext {w w' a : World} {b : Nat} {r : Option Nat} (h : Near w w' b r) (ha : Ext a w) (hb : a.heap.size ≤ b) (hr : ∀ g, r = some g → a.heap.size ≤ g) : Ext a w' :=
  Ext.of_below (ha.below.trans ⟨h.os, h.tape, h.output, h.size, fun k hk => h.block k (Nat.lt_of_lt_of_le hk ha.size) (by omega) (fun e => by have := hr k e.symm; omega)⟩)
theorem Near.below {w w' : World} {b : Nat} {r : Option Nat} (h : Near w w' b r) {B : Nat} (hB : B ≤ w.heap.size) (hb : B ≤ b) (hr : ∀ g, r = some g → B ≤ g) : Below B w w' :=
  ⟨h.os, h.tape, h.output, h.size, fun k hk => h.block k (by omega) (by omega) (fun e => by have := hr k e.symm; omega)⟩

/-- What a writer leaves: more bytes; a row that it had, or a new one. -/
def Wrote (w w' : World) (T e : TypeId) (b : Nat) (v : Value) (base : Nat) (l' : List UInt8) : Prop :=
  ∃ v', BufAt w' T e b v' base l' ∧ Near w w' b v.ownBlock ∧ ∀ g, v'.ownBlock = some g → v.ownBlock = some g ∨ w.heap.size ≤ g

theorem Wrote.refl {w : World} {T e : TypeId} {b : Nat} {v : Value} {base : Nat} {l : List UInt8} (h : BufAt w T e b v base l) : Wrote w w T e b v base l :=
  ⟨v, h, Near.refl _ _ _, fun _ h => .inl h⟩

theorem BufAt.lt {w : World} {T e : TypeId} {b : Nat} {v : Value} {base : Nat} {l : List UInt8} (h : BufAt w T e b v base l) : b < w.heap.size := (Array.getElem?_eq_some_iff.1 h.cell).1
theorem BufAt.cell? {w : World} {T e : TypeId} {b : Nat} {v : Value} {base : Nat} {l : List UInt8} (h : BufAt w T e b v base l) : w.cell? ⟨b, 0, none⟩ = some v := by
  simp [World.cell?, h.cell]
theorem BufAt.frozen? {w : World} {T e : TypeId} {b : Nat} {v : Value} {base : Nat} {l : List UInt8} (h : BufAt w T e b v base l) : w.frozen? ⟨b, 0, none⟩ = false := by
  simp [World.frozen?, h.cell]

theorem ownsRow_len {w : World} {base : Nat} {e : TypeId} {v : Value} {n : Nat} {l : List UInt8} (h : w.ownsRow base e 1 v n (byteCellsV l)) : n = l.length := by
  have := h.1; simp at this; omega
/-- New blocks do not touch a writer. -/
theorem BufAt.ext {w w' : World} {T e : TypeId} {b : Nat} {v : Value} {base : Nat} {l : List UInt8} (h : BufAt w T e b v base l) (he : Ext w w') : BufAt w' T e b v base l := by
  refine ⟨he.heap h.cell, ?_, h.apart⟩
  obtain ⟨x, rfl⟩ := he
  have hg : w.grownBy (w.more x) none := ⟨rfl, rfl, rfl, World.size_le_more w x, fun k hk _ => World.heap_more w x hk⟩
  obtain ⟨n, hown⟩ := h.own
  exact ⟨n, hown.kept hg (by cases v.ownBlock <;> simp)⟩

/-- Then it is written once more. -/
theorem Wrote.trans {a c d : World} {T e : TypeId} {b : Nat} {v : Value} {base : Nat} {l l' : List UInt8} (h : Wrote a c T e b v base l)
    (k : ∀ v', BufAt c T e b v' base l → Wrote c d T e b v' base l') : Wrote a d T e b v base l' := by
  obtain ⟨v1, h1, h2, h3⟩ := h
  obtain ⟨v2, k1, k2, k3⟩ := k v1 h1
  refine ⟨v2, k1, h2.trans k2 h3, fun g hg => ?_⟩
  rcases k3 g hg with h | h
  · exact h3 g h
  · exact .inr (Nat.le_trans h2.size h)
theorem Wrote.ext {a c d : World} {T e : TypeId} {b : Nat} {v : Value} {base : Nat} {l : List UInt8} (h : Wrote a c T e b v base l) (k : Ext c d) : Wrote a d T e b v base l :=
  h.trans fun v' hb => ⟨v', hb.ext k, Near.of_ext k _ _, fun _ h => .inl h⟩
theorem Wrote.ext_left {a c d : World} {T e : TypeId} {b : Nat} {v : Value} {base : Nat} {l : List UInt8} (h : Ext a c) (k : Wrote c d T e b v base l) : Wrote a d T e b v base l := by
  obtain ⟨v', h1, h2, h3⟩ := k
  refine ⟨v', h1, (Near.of_ext h b v.ownBlock).trans h2 fun g hg => .inl hg, fun g hg => ?_⟩
  rcases h3 g hg with h4 | h4
  · exact .inl h4
  · exact .inr (Nat.le_trans h.size h4)
/-- append onto the slice in the cell, and back into the cell. -/
theorem Wrote.append {w w1 : World} {T e : TypeId} {b : Nat} {v v1 : Value} {base : Nat} {l l' : List UInt8} (h : BufAt w T e b v base l) {n : Nat} (hown : w1.ownsRow base e 1 v1 n (byteCellsV (l ++ l'))) (hg : w.grownBy w1 v.ownBlock)
    (hat : v1.ownBlock = v.ownBlock ∨ v1.ownBlock = some w.heap.size) : Wrote w (w1.setCell ⟨b, 0, none⟩ v1) T e b v base (l ++ l') := by
  have hb1 : w1.heap[b]? = some (.cells #[v] T (0, 0)) := (hg.block b h.lt (fun e => h.apart e.symm)).trans h.cell
  have hne : v1.ownBlock ≠ some b := by
    rcases hat with hat | hat <;> rw [hat]
    · exact h.apart
    · intro e; injection e with e; have := h.lt; omega
  refine ⟨v1, ⟨?_, ?_, hne⟩, ?_, ?_⟩
  · simp [World.setCell, Array.getElem?_modify, hb1]
  · have hk : w1.grownBy (w1.setCell ⟨b, 0, none⟩ v1) (some b) := ⟨rfl, rfl, rfl, by simp [World.setCell], fun k _ hk => Below.heap_setCell _ _ _ _ (fun e => hk (by rw [e]))⟩
    exact ⟨n, hown.kept hk (.inr hne)⟩
  · exact (Near.of_grown hg).trans (Near.store 0 v1) (fun g hg => .inl hg)
  · intro g hg'
    rcases hat with hat | hat
    · exact .inl (hat ▸ hg')
    · rw [hat] at hg'; injection hg' with hg'; right; omega
theorem Wrote.step {a c d : World} {T e : TypeId} {b : Nat} {v v1 : Value} {base : Nat} {l' : List UInt8} (hn : Near a c b v.ownBlock) (hr : ∀ g, v1.ownBlock = some g → v.ownBlock = some g ∨ a.heap.size ≤ g)
    (k : Wrote c d T e b v1 base l') : Wrote a d T e b v base l' := by
  obtain ⟨v2, k1, k2, k3⟩ := k
  refine ⟨v2, k1, hn.trans k2 hr, fun g hg => ?_⟩
  rcases k3 g hg with h | h
  · exact hr g h
  · exact .inr (Nat.le_trans hn.size h)
theorem BufAt.grown {w w2 : World} {T e : TypeId} {b : Nat} {v : Value} {base : Nat} {l : List UInt8} (h : BufAt w T e b v base l) (hg : w.grownBy w2 v.ownBlock) :
    w2.cell? ⟨b, 0, none⟩ = some v ∧ w2.frozen? ⟨b, 0, none⟩ = false := by
  have hb : w2.heap[b]? = some (.cells #[v] T (0, 0)) := (hg.block b h.lt (fun e => h.apart e.symm)).trans h.cell
  exact ⟨by simp [World.cell?, hb], by simp [World.frozen?, hb]⟩
theorem BufAt.grown_alloc {w w2 : World} {o : Obj} {T e : TypeId} {b : Nat} {v : Value} {base : Nat} {l : List UInt8} (h : BufAt w T e b v base l) (hg : (w.alloc o).grownBy w2 v.ownBlock) :
    w2.cell? ⟨b, 0, none⟩ = some v ∧ w2.frozen? ⟨b, 0, none⟩ = false := (h.ext ((Ext.refl _).alloc o)).grown hg
theorem Wrote.append_alloc {w w1 : World} {o : Obj} {T e : TypeId} {b : Nat} {v v1 : Value} {base : Nat} {l l' : List UInt8} {n : Nat} {xs : List Value} (h : BufAt w T e b v base l) (hown : w1.ownsRow base e 1 v1 n xs) (hg : (w.alloc o).grownBy w1 v.ownBlock)
    (hat : v1.ownBlock = v.ownBlock ∨ v1.ownBlock = some (w.alloc o).heap.size) (hx : xs = byteCellsV (l ++ l')) : Wrote w (w1.setCell ⟨b, 0, none⟩ v1) T e b v base (l ++ l') := by
  subst hx
  exact (Wrote.append (h.ext ((Ext.refl _).alloc o)) hown hg hat).ext_left ((Ext.refl _).alloc o)

section
variable {P : Program} (w : World)
/-- append of a string's bytes, and where the row lies behind it. -/
theorem run_append_str {t u ty e : TypeId} (het : ElemType P t e 1 1) (hu : P.underlying u = some .string) (hz0 : (P.info? e).map (·.zero) = some (some (.int .u8 0))) {base : Nat}
    {v : Value} {n : Nat} {xs : List Value} (hown : w.ownsRow base e 1 v n xs) (s : ByteArray)
    (hbytes : n + s.size ≤ 140737488355328) (hbase : base ≤ w.heap.size) :
    ∃ A c w', (Builtin.append_ #[t, u] ty #[v, .string s]).run P w = .ok (.slice A (n + s.size) c) w' ∧ w'.ownsRow base e 1 (.slice A (n + s.size) c) (n + s.size) (xs ++ byteCellsV s.data.toList) ∧ w.grownBy w' v.ownBlock ∧
      ((Value.slice A (n + s.size) c).ownBlock = v.ownBlock ∨ (Value.slice A (n + s.size) c).ownBlock = some w.heap.size) := by
  obtain ⟨i, z, ht, hi, hz, hsz, hby, hzs, hpos⟩ := het
  have hz : i.zero = some (.int .u8 0) := by simpa [hi] using hz0
  obtain ⟨v', w', hr, h2, h3, _⟩ := Lib.run_append_own_string (P := P) w base t u ty e i ht hu hi hz hsz hby v n xs hown s (by unfold maxLen; omega) hbytes hbase
  obtain ⟨A, c, rfl⟩ : ∃ A c, v' = .slice A (n + s.size) c := by
    rcases h2.2 with ⟨rfl, h0⟩ | ⟨g, cap, cur, rfl, _⟩
    · exact ⟨none, 0, by rw [h0]⟩
    · exact ⟨_, _, rfl⟩
  refine ⟨A, c, w', hr, h2, h3, ?_⟩
  have hxl : xs.length = n := by simpa using hown.1
  have same : ∀ {x y : Value} {a b : World}, (Result.ok x a : Result Value) = .ok y b → x = y := by intro x y a b h; injection h
  rcases hown.2 with ⟨rfl, rfl⟩ | ⟨g, cap, cur, rfl, hbg, hg, hnc, hcm, hcs, htake⟩
  · by_cases hm : s.size = 0
    · have hn : s.size + 0 = 0 := by omega
      rcases h2.2 with ⟨h0, _⟩ | ⟨g, cap, cur, h0, hbg, hgg, _⟩
      · injection h0 with h0; subst h0; exact .inl rfl
      · have hf := Lib.run_firstCells_string (P := P) w 1 s
        rw [hm] at hf
        have hr' : (Builtin.append_ #[t, u] ty #[.slice none 0 0, .string s]).run P w = .ok (.slice none 0 0) w := by
          simp [Builtin.append_, run_underlying ht, run_underlying hu, sizeOf, typeInfo, hi, hsz, Builtin.lenOf, hm, hf]
        rw [hr'] at hr
        have := same hr
        rw [← this]; exact .inl rfl
    · have hr' := run_append_nil_string (P := P) w t u ty e i (.int .u8 0) ht hu hi hz s (by omega) (by omega) (by rw [hby]; omega)
      rw [hr'] at hr
      have := same hr
      injection this with h1
      rw [← h1]; exact .inr rfl
  · by_cases hroom : n + s.size ≤ cap
    · have hcs' : cur.size = cap := by simpa using hcs
      have hr' := Lib.run_append_room_string (P := P) w t u ty e i ht hu hi hsz g n cap cur hg s hroom (by omega)
      rw [hr'] at hr
      have := same hr
      injection this with h1
      rw [← h1]; exact .inl rfl
    · have holds : ∀ j u, xs[j]? = some u → w.cell? ((⟨g, 0, none⟩ : Addr).add j) = some u := hown.cells (g := g) rfl
      have hr' := Lib.run_append_grow_string (P := P) w t u ty e i (.int .u8 0) ht hu hi hz ⟨g, 0, none⟩ n cap xs (by rw [hsz]; simpa using hxl) holds s (by omega) (by omega) (by rw [hby]; exact growslice_fits (by omega) (by omega))
      rw [hr'] at hr
      have := same hr
      injection this with h1
      rw [← h1]; exact .inr rfl

theorem wpList_append_str {ops : Array Oper} {rest : List Oper} {o : Oper} {a : Act} {Q : Exit → Act → World → Prop} (hgd : o.guard = none) (s x : Operand) {t u e : TypeId}
    (ho : o.op = .call { callee := .builtin .append, args := #[s, x], argTypes := #[t, u] }) (het : ElemType P t e 1 1) (hu : P.underlying u = some .string) (hz0 : (P.info? e).map (·.zero) = some (some (.int .u8 0))) {base : Nat}
    {v : Value} {n : Nat} {xs : List Value} (hs : a.eval s = v) (hown : w.ownsRow base e 1 v n xs) {str : ByteArray} (hx : a.eval x = .string str)
    (hbytes : n + str.size ≤ 140737488355328) (hbase : base ≤ w.heap.size)
    (h : ∀ A c w', w'.ownsRow base e 1 (.slice A (n + str.size) c) (n + str.size) (xs ++ byteCellsV str.data.toList) → w.grownBy w' v.ownBlock →
      ((Value.slice A (n + str.size) c).ownBlock = v.ownBlock ∨ (Value.slice A (n + str.size) c).ownBlock = some w.heap.size) → wpList P ops Q rest (a.put o.dst (.slice A (n + str.size) c)) w') : wpList P ops Q (o :: rest) a w := by
  refine wpList_plain hgd fun K hK => ?_
  obtain ⟨A, c, w', hr, h2, h3, h4⟩ := run_append_str (P := P) w (ty := o.type) het hu hz0 hown str hbytes hbase
  unfold Oper.wp execOp
  simp only [ho, resolve, invoke, builtin, Sem.run_bind, Sem.run_pure, Result.andThen_ok, List.map_toArray, List.map_cons, List.map_nil, hs, hx, hr]
  exact hK _ _ (h A c w' h2 h3 h4)
end
theorem Wrote.append_str {w w1 : World} {T e : TypeId} {b : Nat} {v v1 : Value} {base : Nat} {l l' : List UInt8} {n : Nat} {xs : List Value} (h : BufAt w T e b v base l) (hown : w1.ownsRow base e 1 v1 n xs) (hg : w.grownBy w1 v.ownBlock)
    (hat : v1.ownBlock = v.ownBlock ∨ v1.ownBlock = some w.heap.size) (hx : xs = byteCellsV (l ++ l')) : Wrote w (w1.setCell ⟨b, 0, none⟩ v1) T e b v base (l ++ l') := by
  subst hx
  exact Wrote.append h hown hg hat

/-- A block that was just made is as it was behind a writer's work. -/
theorem BufAt.box {w w2 : World} {T e t : TypeId} {b : Nat} {v : Value} {base : Nat} {l : List UInt8} {cs : Array Value} (hb : BufAt w T e b v base l) (hn : Near (w.alloc (.cells cs t)) w2 b v.ownBlock) (j : Nat) :
    w2.cell? ⟨w.heap.size, j, none⟩ = cs[j]? := by
  have h1 := hb.lt
  have h2 := hn.block w.heap.size (by simp) (by omega) (fun e => by
    obtain ⟨n, hown⟩ := hb.own
    have := hown.lt w.heap.size e.symm
    omega)
  rw [World.cell?_of_block h2, World.cell?_alloc_new]

theorem Near.heap_keep {w w' : World} {b g : Nat} {row : Option Nat} {o : Obj} (hn : Near w w' b row) (hg : w.heap[g]? = some o) (hb : g ≠ b) (hr : row ≠ some g) : w'.heap[g]? = some o :=
  (hn.block g (Array.getElem?_eq_some_iff.1 hg).1 hb (fun e => hr e.symm)).trans hg
theorem cell_of_heap {w : World} {g : Nat} {cs : Array Value} {t : TypeId} (h : w.heap[g]? = some (.cells cs t (0, 0))) (j : Nat) : w.cell? ⟨g, j, none⟩ = cs[j]? := by
  simp [World.cell?, h]
theorem frozen_of_heap {w : World} {g : Nat} {cs : Array Value} {t : TypeId} (h : w.heap[g]? = some (.cells cs t (0, 0))) (j : Nat) : w.frozen? ⟨g, j, none⟩ = false := by
  simp [World.frozen?, h]
/-- A block that was just made: whole, and none of the writer's. -/
theorem BufAt.boxed {w w2 : World} {T e t : TypeId} {b : Nat} {v v2 : Value} {base : Nat} {l : List UInt8} {cs : Array Value} (hb : BufAt w T e b v base l) (hn : Near (w.alloc (.cells cs t)) w2 b v.ownBlock)
    (hr : ∀ g, v2.ownBlock = some g → v.ownBlock = some g ∨ (w.alloc (.cells cs t)).heap.size ≤ g) :
    w2.heap[w.heap.size]? = some (.cells cs t (0, 0)) ∧ w.heap.size ≠ b ∧ v2.ownBlock ≠ some w.heap.size := by
  have h1 := hb.lt
  obtain ⟨n, hown⟩ := hb.own
  have hne : v.ownBlock ≠ some w.heap.size := fun e => by have := hown.lt w.heap.size e; omega
  refine ⟨hn.heap_keep (heap_alloc_new w _) (by omega) hne, by omega, fun e => ?_⟩
  rcases hr _ e with h | h
  · exact hne h
  · simp at h; omega

theorem ownsRow_ext {w w' : World} {base : Nat} {e : TypeId} {size n : Nat} {v : Value} {xs : List Value} (h : w.ownsRow base e size v n xs) (he : Ext w w') : w'.ownsRow base e size v n xs := by
  obtain ⟨x, rfl⟩ := he
  have hg : w.grownBy (w.more x) none := ⟨rfl, rfl, rfl, World.size_le_more w x, fun k hk _ => World.heap_more w x hk⟩
  exact h.kept hg (by cases v.ownBlock <;> simp)
theorem Reads.fresh_ext {W W' : World} (size n : Nat) (e : TypeId) (l : List Value) (hl : l.length = n * size) (he : Ext (W.alloc (.cells l.toArray e)) W') : Reads W' size (.slice (some ⟨W.heap.size, 0, none⟩) n n) n l :=
  (Reads.fresh W size n e l hl).ext he
theorem Ext.owned {a w w' : World} (h : Ext a w) {W : World} {base : Nat} {e : TypeId} {size n : Nat} {v : Value} {xs : List Value} (ho : W.ownsRow base e size v n xs) (hg : w.grownBy w' v.ownBlock) (hb : a.heap.size ≤ base) : Ext a w' :=
  h.grown hg fun k hk => Nat.le_trans hb (ho.lt k hk).1

theorem Ext.alloc_drewN (w : World) (o : Obj) (n : Nat) : Ext (w.alloc o) ((w.drewN n).alloc o) := Ext.of_below ⟨rfl, rfl, rfl, Nat.le_refl _, fun _ _ => rfl⟩
theorem Ext.alloc_drew (w : World) (o : Obj) : Ext (w.alloc o) (w.drew.alloc o) := Ext.of_below ⟨rfl, rfl, rfl, Nat.le_refl _, fun _ _ => rfl⟩

theorem ownsRow_base {w : World} {base base' : Nat} {e : TypeId} {size n : Nat} {v : Value} {xs : List Value} (h : w.ownsRow base e size v n xs) (hb : base' ≤ base) : w.ownsRow base' e size v n xs := by
  refine ⟨h.1, ?_⟩
  rcases h.2 with h2 | ⟨g, cap, cur, h1, h2, h3⟩
  · exact .inl h2
  · exact .inr ⟨g, cap, cur, h1, Nat.le_trans hb h2, h3⟩

theorem Reads.fresh_at {W W' : World} {g : Nat} (size n : Nat) (e : TypeId) (l : List Value) (hl : l.length = n * size) (he : Ext (W.alloc (.cells l.toArray e)) W') (hg : g = W.heap.size) : Reads W' size (.slice (some ⟨g, 0, none⟩) n n) n l := by
  subst hg; exact (Reads.fresh W size n e l hl).ext he

theorem BufAt.row_lt {w : World} {T e : TypeId} {b : Nat} {v : Value} {base : Nat} {l : List UInt8} (hb : BufAt w T e b v base l) {g : Nat} (h : v.ownBlock = some g) : g < w.heap.size := by
  obtain ⟨n, hown⟩ := hb.own
  exact (hown.lt g h).2
end Go
