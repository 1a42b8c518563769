/- A world with new blocks behind it: what a call that only makes memory leaves. No program in sight. -/
import Derived.WalkKit
import Derived.Maps.AppendAt
import Derived.Deep.Draws
namespace Go
set_option linter.unusedSimpArgs false
set_option linter.unusedVariables false
open Go.RowKit

/-- New blocks, and where the tape stands behind them. -/
structure Extra where
  objs : Array Obj
  drawn : Nat

instance : Inhabited Extra := ⟨⟨#[], 0⟩⟩
/-- The world with these blocks behind it. -/
def World.more (w : World) (x : Extra) : World := { w with heap := w.heap ++ x.objs, drawn := x.drawn }

def Extra.cat (x y : Extra) : Extra := ⟨x.objs ++ y.objs, y.drawn⟩

section
variable (w : World) (x y : Extra) (a : Addr)

@[simp, go_sem] theorem World.more_more : (w.more x).more y = w.more (x.cat y) := by
  simp [World.more, Extra.cat, Array.append_assoc]
@[simp, go_sem] theorem World.more_of_drew : w.drew.more x = w.more x := rfl
@[simp, go_sem] theorem World.more_of_drewN (n : Nat) : (w.drewN n).more x = w.more x := rfl
theorem World.size_more : (w.more x).heap.size = w.heap.size + x.objs.size := by simp [World.more]
@[go_sem] theorem World.lt_size_more {k : Nat} (h : k < w.heap.size) : k < (w.more x).heap.size := by rw [World.size_more]; omega
theorem World.size_le_more : w.heap.size ≤ (w.more x).heap.size := by rw [World.size_more]; omega
theorem World.heap_more {k : Nat} (h : k < w.heap.size) : (w.more x).heap[k]? = w.heap[k]? := by
  show (w.heap ++ x.objs)[k]? = _
  rw [Array.getElem?_append_left h]
theorem World.heap_more_some {k : Nat} {o : Obj} (h : w.heap[k]? = some o) : (w.more x).heap[k]? = some o := by
  rw [World.heap_more w x (Array.getElem?_eq_some_iff.1 h).1, h]
@[go_sem] theorem World.cell?_more (h : a.block < w.heap.size) : (w.more x).cell? a = w.cell? a := World.cell?_of_block (World.heap_more w x h)
@[go_sem] theorem World.frozen?_more (h : a.block < w.heap.size) : (w.more x).frozen? a = w.frozen? a := World.frozen?_of_block (World.heap_more w x h)
theorem World.cell?_more_some {v : Value} (h : w.cell? a = some v) : (w.more x).cell? a = some v := by
  rw [World.cell?_more w x a (World.block_lt_of_cell? w a h), h]
@[simp, go_sem] theorem World.tape_more : (w.more x).tape = w.tape := rfl
@[simp, go_sem] theorem World.os_more : (w.more x).os = w.os := rfl
@[simp, go_sem] theorem World.output_more : (w.more x).output = w.output := rfl
@[go_sem] theorem World.setCell_more {v : Value} (h : a.block < w.heap.size) : (w.more x).setCell a v = (w.setCell a v).more x := by
  simp only [World.setCell, World.more, World.mk.injEq, and_true]
  apply Array.ext_getElem?
  intro i
  rw [Array.getElem?_modify, Array.getElem?_append, Array.getElem?_append, Array.size_modify, Array.getElem?_modify]
  by_cases hi : i < w.heap.size
  · simp [hi]
  · rw [if_neg hi, if_neg hi, if_neg (by omega)]
end

/-- w' is w with new blocks. -/
def Ext (w w' : World) : Prop := ∃ x, w' = w.more x

theorem Ext.of_below {w w' : World} (h : Below w.heap.size w w') : Ext w w' := by
  refine ⟨⟨w'.heap.extract w.heap.size w'.heap.size, w'.drawn⟩, ?_⟩
  obtain ⟨h1, h2, h3, h4, h5⟩ := h
  have hh : w'.heap = w.heap ++ w'.heap.extract w.heap.size w'.heap.size := by
    apply Array.ext_getElem?
    intro i
    rcases Nat.lt_or_ge i w.heap.size with hi | hi
    · rw [Array.getElem?_append_left hi, h5 i hi]
    · rw [Array.getElem?_append_right hi, Array.getElem?_extract]
      split
      · congr 1; omega
      · rw [Array.getElem?_eq_none]; omega
  cases w; cases w'
  simp only [World.more, World.mk.injEq]
  simp only at h1 h2 h3 hh
  exact ⟨hh, h2, trivial, h1, h3⟩

theorem Ext.below {w w' : World} (h : Ext w w') : Below w.heap.size w w' := by
  obtain ⟨x, rfl⟩ := h
  exact ⟨rfl, rfl, rfl, World.size_le_more w x, fun k hk => World.heap_more w x hk⟩
theorem Ext.belowB {w w' : World} (h : Ext w w') {B : Nat} (hB : B ≤ w.heap.size) : Below B w w' := h.below.mono hB
theorem Ext.refl (w : World) : Ext w w := Ext.of_below (Below.refl _ _)
theorem Ext.trans {a b c : World} (h : Ext a b) (k : Ext b c) : Ext a c := by
  obtain ⟨x, rfl⟩ := h; obtain ⟨y, rfl⟩ := k
  exact ⟨x.cat y, by simp⟩
theorem Ext.size {w w' : World} (h : Ext w w') : w.heap.size ≤ w'.heap.size := h.below.size
theorem Ext.more {a w : World} (h : Ext a w) (x : Extra) : Ext a (w.more x) := h.trans ⟨x, rfl⟩
theorem Ext.alloc {a w : World} (h : Ext a w) (o : Obj) : Ext a (w.alloc o) := Ext.of_below (h.below.alloc h.size o)
theorem Ext.drew {a w : World} (h : Ext a w) : Ext a w.drew := Ext.of_below h.below.drew
theorem Ext.drewN {a w : World} (h : Ext a w) (n : Nat) : Ext a (w.drewN n) := Ext.of_below (let b := h.below; ⟨b.os, b.tape, b.output, b.size, b.block⟩)
theorem Ext.setCell {a w : World} (h : Ext a w) {p : Addr} (hp : a.heap.size ≤ p.block) (u : Value) : Ext a (w.setCell p u) := Ext.of_below (h.below.setCell hp u)
theorem Ext.grown {a w w' : World} (h : Ext a w) {row : Option Nat} (hg : w.grownBy w' row) (hr : ∀ k, row = some k → a.heap.size ≤ k) : Ext a w' :=
  Ext.of_below (h.below.grown hg h.size hr)
theorem Ext.cell {w w' : World} (h : Ext w w') {p : Addr} {v : Value} (hc : w.cell? p = some v) : w'.cell? p = some v := by
  obtain ⟨x, rfl⟩ := h; exact World.cell?_more_some w x p hc
theorem Ext.heap {w w' : World} (h : Ext w w') {k : Nat} {o : Obj} (hc : w.heap[k]? = some o) : w'.heap[k]? = some o := by
  obtain ⟨x, rfl⟩ := h; exact World.heap_more_some w x hc
theorem Ext.frozen {w w' : World} (h : Ext w w') {p : Addr} (hp : p.block < w.heap.size) : w'.frozen? p = w.frozen? p := h.below.frozen hp

/-- A slice value that reads as these cells, each element 'size' cells; it lies in memory that is there. -/
def Reads (w : World) (size : Nat) (v : Value) (n : Nat) (xs : List Value) : Prop :=
  xs.length = n * size ∧ ∃ A c, v = .slice A n c ∧ n ≤ c ∧ (0 < n → ∃ b off, A = some ⟨b, off, none⟩ ∧ b < w.heap.size ∧ ∀ j u, xs[j]? = some u → w.cell? ⟨b, off + j, none⟩ = some u)

theorem addr_add (b off n : Nat) : (⟨b, off, none⟩ : Addr).add n = ⟨b, off + n, none⟩ := by unfold Addr.add; split <;> simp_all

theorem Reads.ext {w w' : World} {size n : Nat} {v : Value} {xs : List Value} (h : Reads w size v n xs) (he : Ext w w') : Reads w' size v n xs := by
  obtain ⟨h1, A, c, rfl, hc, h2⟩ := h
  refine ⟨h1, A, c, rfl, hc, fun hn => ?_⟩
  obtain ⟨b, off, rfl, hb, h3⟩ := h2 hn
  exact ⟨b, off, rfl, Nat.lt_of_lt_of_le hb he.size, fun j u hu => he.cell (h3 j u hu)⟩
theorem Reads.more {w : World} {size n : Nat} {v : Value} {xs : List Value} (h : Reads w size v n xs) (x : Extra) : Reads (w.more x) size v n xs := h.ext ⟨x, rfl⟩
/-- Where the slice's block is as it was. -/
theorem Reads.keep {w w' : World} {size n : Nat} {A : Option Addr} {m c : Nat} {xs : List Value} (h : Reads w size (.slice A m c) n xs)
    (hk : ∀ b off, A = some ⟨b, off, none⟩ → b < w.heap.size → w'.heap[b]? = w.heap[b]?) (hs : w.heap.size ≤ w'.heap.size) : Reads w' size (.slice A m c) n xs := by
  obtain ⟨h1, A', c', hv, hc, h2⟩ := h
  injection hv with hA hm hcc
  subst hA hm hcc
  refine ⟨h1, A, c, rfl, hc, fun hn => ?_⟩
  obtain ⟨b, off, rfl, hb, h3⟩ := h2 hn
  exact ⟨b, off, rfl, Nat.lt_of_lt_of_le hb hs, fun j u hu => (World.cell?_of_block (hk b off rfl hb)).trans (h3 j u hu)⟩
theorem Reads.below {w w' : World} {size n : Nat} {A : Option Addr} {m c : Nat} {xs : List Value} {B : Nat} (h : Reads w size (.slice A m c) n xs)
    (hb : Below B w w') (hA : ∀ b off, A = some ⟨b, off, none⟩ → b < B) : Reads w' size (.slice A m c) n xs :=
  h.keep (fun b off e _ => hb.block b (hA b off e)) hb.size
theorem Reads.nil (w : World) (size : Nat) : Reads w size (.slice none 0 0) 0 [] := ⟨by simp, none, 0, rfl, Nat.le_refl _, fun h => absurd h (by omega)⟩
theorem Reads.of_own {w : World} {base : Nat} {e : TypeId} {size n : Nat} {v : Value} {xs : List Value} (h : w.ownsRow base e size v n xs) : Reads w size v n xs := by
  have h1 := h.1
  rcases h.2 with ⟨rfl, rfl⟩ | ⟨g, cap, cur, rfl, hb, hg, hnc, _⟩
  · exact ⟨h1, none, 0, rfl, Nat.le_refl _, fun h => absurd h (by omega)⟩
  · refine ⟨h1, _, cap, rfl, hnc, fun _ => ⟨g, 0, rfl, (h.lt g rfl).2, fun j u hu => ?_⟩⟩
    have := h.cells (g := g) rfl j u hu
    rwa [addr_add] at this
end Go
