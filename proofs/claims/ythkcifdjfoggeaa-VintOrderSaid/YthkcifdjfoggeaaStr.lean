/- Strings as lists of bytes; bytes turned to strings. No program in sight. -/
import Derived.Test.YthkcifdjfoggeaaMore
import Derived.Laws.BytesArg
namespace Go
open Go.RowKit

/-- A string of these bytes. -/
def bs (l : List UInt8) : ByteArray := ⟨l.toArray⟩
theorem bs_append (a b : List UInt8) : bs a ++ bs b = bs (a ++ b) := by
  apply ByteArray.ext
  simp [bs]
@[simp] theorem bs_toList (l : List UInt8) : (bs l).toList = l := ByteArray.toList_mk l
@[simp] theorem bs_data (l : List UInt8) : (bs l).data.toList = l := rfl
@[simp] theorem bs_size (l : List UInt8) : (bs l).size = l.length := by simp [bs, ByteArray.size]
theorem bs_of (s : ByteArray) : bs s.data.toList = s := rfl
theorem bs_inj {a b : List UInt8} : bs a = bs b ↔ a = b := ⟨fun h => by have := congrArg (fun s => s.data.toList) h; simpa using this, fun h => by rw [h]⟩
theorem size_list (s : ByteArray) : s.data.toList.length = s.size := by rw [Array.length_toList]; rfl
theorem bs_nil : bs [] = ⟨#[]⟩ := rfl

def numOf? : Option Value → Int
  | some (.int _ n) => n
  | _ => 0
@[go_sem] theorem numOf?_some (k : IntKind) (n : Int) : numOf? (some (.int k n)) = n := rfl
/-- The byte that a number is. -/
def u8Of (n : Int) : UInt8 := UInt8.ofNat n.toNat

theorem run_str_one {P : Program} {src dst e : TypeId} (hs : P.underlying src = some (.slice e)) (he : P.underlying e = some (.int .u8)) (hd : P.underlying dst = some .string)
    (w : World) (a : Addr) (c : Nat) (h : w.cell? a = some (.int .u8 (numOf? (w.cell? a)))) :
    (convert src dst (.slice (some a) 1 c)).run P w = .ok (.string (bs [u8Of (numOf? (w.cell? a))])) w := by
  obtain ⟨b, off, sp⟩ := a
  have hsp : sp = none := by
    cases sp with
    | none => rfl
    | some s =>
      unfold World.cell? at h
      split at h <;> simp at h
  subst hsp
  generalize hn : numOf? (w.cell? ⟨b, off, none⟩) = n at *
  have := run_convert_bytes_arg (P := P) w src e hs he b off 1 c [n] rfl (fun i hi => by
    have hi0 : i = 0 := by omega
    subst hi0
    simpa using h) dst hd
  rw [this]
  rfl

/-- A row of bytes that is read. -/
def byteCellsV (l : List UInt8) : List Value := l.map fun b => .int .u8 (b.toNat : Int)
@[simp] theorem byteCellsV_length (l : List UInt8) : (byteCellsV l).length = l.length := by simp [byteCellsV]
theorem byteCellsV_append (a b : List UInt8) : byteCellsV (a ++ b) = byteCellsV a ++ byteCellsV b := by simp [byteCellsV]

theorem run_str_reads {P : Program} {src dst e : TypeId} (hs : P.underlying src = some (.slice e)) (he : P.underlying e = some (.int .u8)) (hd : P.underlying dst = some .string)
    {w : World} {v : Value} {n : Nat} {l : List UInt8} (h : Reads w 1 v n (byteCellsV l)) : (convert src dst v).run P w = .ok (.string (bs l)) w := by
  obtain ⟨h1, A, c, rfl, _, h2⟩ := h
  simp only [byteCellsV_length, Nat.mul_one] at h1
  have hl : (Conv.bytesToString (.slice A n c)).run P w = .ok (.string (bs l)) w := by
    cases A with
    | none =>
      have h0 : n = 0 := by
        rcases Nat.eq_zero_or_pos n with h0 | h0
        · exact h0
        · obtain ⟨b, off, e, _⟩ := h2 h0; cases e
      have : l = [] := List.eq_nil_of_length_eq_zero (by omega)
      subst this
      simp [Conv.bytesToString]
      rfl
    | some a =>
      have hcells : ∀ j u, (byteCellsV l)[j]? = some u → w.cell? (a.add j) = some u := by
        intro j u hu
        rcases Nat.eq_zero_or_pos n with h0 | h0
        · have : l = [] := List.eq_nil_of_length_eq_zero (by omega)
          subst this; simp [byteCellsV] at hu
        · obtain ⟨b, off, e, _, h3⟩ := h2 h0
          injection e with e; subst e; rw [addr_add]; exact h3 j u hu
      have hload := run_loadCells_list (P := P) w a (byteCellsV l) hcells
      have hload' : (loadCells a n).run P w = .ok ((l.map fun b => (b.toNat : Int)).map (Value.int .u8)).toArray w := by
        rw [byteCellsV_length, h1] at hload
        rw [hload]; simp [byteCellsV]
      rw [run_bytesToString w a n c _ hload', foldl_push_bytes]
      simp only [ByteArray.empty, ByteArray.emptyWithCapacity, bs]
      simp only [List.map_map]
      have : (List.map ((fun n : Int => UInt8.ofNat n.toNat) ∘ fun b : UInt8 => (b.toNat : Int)) l) = l := by
        rw [show ((fun n : Int => UInt8.ofNat n.toNat) ∘ fun b : UInt8 => (b.toNat : Int)) = id from by funext b; simp]
        simp
      rw [this]
      simp
      rfl
  rw [run_convert_bytes_string w src dst e A n c hs he hd, hl]
end Go
