/- Bytes of one's own: what is written and read again. No program in sight. -/
import Derived.Test.YtpedaofcndaooaaDoorBo
namespace Go.A
set_option linter.unusedSimpArgs false
set_option linter.unusedVariables false
theorem set_bytes {l : List UInt8} {i : Nat} {m : Int} (h : i < l.length) : (bytesAV l).take i ++ [.int .u8 m] ++ (bytesAV l).drop (i + 1) = (bytesAV l).set i (.int .u8 m) := by
  rw [List.set_eq_take_append_cons_drop, if_pos (by simpa [bytesAV] using h)]
  simp
theorem bytes_set {l : List UInt8} {i : Nat} {c : UInt8} : (bytesAV l).set i (.int .u8 c.toNat) = bytesAV (l.set i c) := by
  simp [bytesAV, List.map_set]
theorem bytes_take {l : List UInt8} {i : Nat} : (bytesAV l).take i = bytesAV (l.take i) := by simp [bytesAV, List.map_take]
theorem bytes_drop {l : List UInt8} {i : Nat} : (bytesAV l).drop i = bytesAV (l.drop i) := by simp [bytesAV, List.map_drop]
theorem bytes_all {l : List UInt8} {n : Nat} (h : l.length = n) : (bytesAV l).take n = bytesAV l := by
  rw [List.take_of_length_le (by simp [bytesAV, h])]
theorem u8_nat {n : Nat} (h : n < 256) : ((UInt8.ofNat n).toNat : Int) = n := by
  have : (UInt8.ofNat n).toNat = n := by simp; omega
  rw [this]
theorem u8_lt (c : UInt8) : (c.toNat : Int) < 256 := by have := c.toNat_lt; omega
attribute [go_sem] bytesOf_bytesAV
end Go.A
