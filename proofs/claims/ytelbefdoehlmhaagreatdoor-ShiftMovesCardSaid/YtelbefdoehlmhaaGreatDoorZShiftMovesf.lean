/- Part 6 of what ShiftMoves leans on: Shelf Wz Wa Zu Zd CodeEq Eq CodeWb Wb Hc Hd Hf CodeZe. -/
import Derived.Shelf.Strings.Builder1
import Derived.Shelf.Strings.Builder2
import Derived.Shelf.Strings.Trim
import Derived.Shelf.Small.Utf8
import Derived.Shelf.Small.Strs
import Derived.Shelf.Small.Wraps
import Derived.Shelf.Strings.BuilderF
import Derived.Shelf.Strings.BuilderK
import Derived.Shelf.Strings.BuilderRune
import Derived.Shelf.Utf8.AppendRunePlain
import Derived.Shelf.Utf8.RuneCount
import Derived.Shelf.Strings.Builder2Cap
import Derived.Shelf.Strconv.Itoa0
import Derived.Shelf.Strconv.Itoa1
import Derived.Shelf.LaysM
import Derived.Shelf.Strconv.Itoa2
import Derived.Shelf.Strconv.Itoa3
import Derived.Shelf.Strings.Search1
import Derived.Shelf.Strings.Search2
import Derived.Shelf.Strings.Search3
import Derived.Shelf.Strings.Cut
import Derived.Shelf.Strings.Count
import Derived.Shelf.Strings.Shaped
import Derived.Shelf.Strings.Prefix
import Derived.Shelf.Strings.Split
import Derived.Shelf.Strings.Replace
import Derived.Shelf.Strings.SplitShaped
import Derived.Shelf.Unicode.Decode
import Derived.Shelf.Strings.Runes
import Derived.Shelf.Strings.RuneCount
import Derived.Shelf.Strings.AsciiSet
import Derived.Shelf.Unicode.DecodeSlow
import Derived.Shelf.Unicode.DecodeAny
import Derived.Shelf.Unicode.DecodeLast
import Derived.Shelf.Strings.BuilderCap
import Derived.Test.YtelbefdoehlmhaaGreatDoorProg
import Derived.Lib.ItoaMem
import Derived.Lib.LaidU8
import Derived.KernelRfl
import Derived.Lib.Replace
import Derived.Lib.AppendIntMem
import Derived.BigCall
import Derived.BigGuard
import Derived.Test.YtelbefdoehlmhaaGreatDoorZShiftMovese
namespace Go.Proofs
open Go.Shelf
def Tryz.lays169_ren : Go.Shelf.Ren := ⟨fun | 169 => 53 | n => n, fun | 70 => 103 | 9 => 9 | 0 => 0 | 72 => 106 | 37 => 104 | 127 => 132 | 3 => 3 | 5 => 5 | n => n, fun | n => n⟩
theorem Tryz.lays169 : Go.Proofs.Lays.n169 Tryz.prog Tryz.lays169_ren := {
  mixed := by kernel_rfl
  f169 := Tryz.func53.trans (congrArg some (by kernel_rfl))
  t0 := Tryz.underlying0
  a0 := Tryz.isAgg0
  z0 := Tryz.sizeOf0
  v0 := Tryz.zeroValue0
  t3 := Tryz.underlying3
  a3 := Tryz.isAgg3
  z3 := Tryz.sizeOf3
  v3 := Tryz.zeroValue3
  t9 := Tryz.underlying9
  a9 := Tryz.isAgg9
  z9 := Tryz.sizeOf9
  v9 := Tryz.zeroValue9
  t37 := Tryz.underlying104
  a37 := Tryz.isAgg104
  z37 := Tryz.sizeOf104
  v37 := Tryz.zeroValue104
  t70 := Tryz.underlying103
  a70 := Tryz.isAgg103
  z70 := Tryz.sizeOf103
  v70 := Tryz.zeroValue103
  t72 := Tryz.underlying106
  a72 := Tryz.isAgg106
  z72 := Tryz.sizeOf106
  v72 := Tryz.zeroValue106
  t127 := Tryz.underlying132
  a127 := Tryz.isAgg132
  z127 := Tryz.sizeOf132
  v127 := Tryz.zeroValue132 }
theorem Tryz.Builder_Extra_169 : Builder.Extra Tryz.prog Tryz.lays169_ren := {
  sizeBuilder := by kernel_rfl
  liesBuilder := by kernel_rfl
  t5 := Tryz.underlying5
  a5 := Tryz.isAgg5
  z5 := Tryz.sizeOf5
  v5 := Tryz.zeroValue5
  infoByte := by kernel_rfl
  cellsByte := by kernel_rfl
  sizeByte := by kernel_rfl
  neB5 := by decide }
def Tryz.lays162_ren : Go.Shelf.Ren := ⟨fun | 162 => 100 | 232 => 119 | 227 => 120 | 234 => 121 | 236 => 122 | 228 => 137 | 271 => 138 | 151 => 139 | 120 => 156 | 197 => 84 | 152 => 157 | 260 => 106 | 137 => 164 | 119 => 165 | 224 => 148 | 225 => 147 | 217 => 146 | 266 => 160 | n => n, fun | 9 => 9 | 4 => 4 | 3 => 3 | 5 => 5 | 117 => 160 | 116 => 159 | 0 => 0 | 124 => 163 | 21 => 21 | 105 => 116 | 46 => 166 | 119 => 165 | 139 => 169 | 138 => 168 | n => n, fun | 3 => 1 | 4 => 2 | n => n⟩
theorem Tryz.lays162 : Go.Proofs.Lays.n162 Tryz.prog Tryz.lays162_ren := {
  mixed := by kernel_rfl
  f119 := Tryz.func165.trans (congrArg some (by kernel_rfl))
  f120 := Tryz.func156.trans (congrArg some (by kernel_rfl))
  f137 := Tryz.func164.trans (congrArg some (by kernel_rfl))
  f151 := Tryz.func139.trans (congrArg some (by kernel_rfl))
  f152 := Tryz.func157.trans (congrArg some (by kernel_rfl))
  f162 := Tryz.func100.trans (congrArg some (by kernel_rfl))
  f197 := Tryz.func84.trans (congrArg some (by kernel_rfl))
  f217 := Tryz.func146.trans (congrArg some (by kernel_rfl))
  f224 := Tryz.func148.trans (congrArg some (by kernel_rfl))
  f225 := Tryz.func147.trans (congrArg some (by kernel_rfl))
  f227 := Tryz.func120.trans (congrArg some (by kernel_rfl))
  f228 := Tryz.func137.trans (congrArg some (by kernel_rfl))
  f232 := Tryz.func119.trans (congrArg some (by kernel_rfl))
  f234 := Tryz.func121.trans (congrArg some (by kernel_rfl))
  f236 := Tryz.func122.trans (congrArg some (by kernel_rfl))
  f260 := Tryz.func106.trans (congrArg some (by kernel_rfl))
  f266 := Tryz.func160.trans (congrArg some (by kernel_rfl))
  f271 := Tryz.func138.trans (congrArg some (by kernel_rfl))
  t0 := Tryz.underlying0
  a0 := Tryz.isAgg0
  z0 := Tryz.sizeOf0
  v0 := Tryz.zeroValue0
  t3 := Tryz.underlying3
  a3 := Tryz.isAgg3
  z3 := Tryz.sizeOf3
  v3 := Tryz.zeroValue3
  t4 := Tryz.underlying4
  a4 := Tryz.isAgg4
  z4 := Tryz.sizeOf4
  v4 := Tryz.zeroValue4
  t5 := Tryz.underlying5
  a5 := Tryz.isAgg5
  z5 := Tryz.sizeOf5
  v5 := Tryz.zeroValue5
  t9 := Tryz.underlying9
  a9 := Tryz.isAgg9
  z9 := Tryz.sizeOf9
  v9 := Tryz.zeroValue9
  t21 := Tryz.underlying21
  a21 := Tryz.isAgg21
  z21 := Tryz.sizeOf21
  v21 := Tryz.zeroValue21
  t46 := Tryz.underlying166
  a46 := Tryz.isAgg166
  z46 := Tryz.sizeOf166
  v46 := Tryz.zeroValue166
  t105 := Tryz.underlying116
  a105 := Tryz.isAgg116
  z105 := Tryz.sizeOf116
  v105 := Tryz.zeroValue116
  t116 := Tryz.underlying159
  a116 := Tryz.isAgg159
  z116 := Tryz.sizeOf159
  t117 := Tryz.underlying160
  a117 := Tryz.isAgg160
  z117 := Tryz.sizeOf160
  v117 := Tryz.zeroValue160
  t119 := Tryz.underlying165
  a119 := Tryz.isAgg165
  z119 := Tryz.sizeOf165
  t124 := Tryz.underlying163
  a124 := Tryz.isAgg163
  z124 := Tryz.sizeOf163
  v124 := Tryz.zeroValue163
  t138 := Tryz.underlying168
  a138 := Tryz.isAgg168
  z138 := Tryz.sizeOf168
  v138 := Tryz.zeroValue168
  t139 := Tryz.underlying169
  a139 := Tryz.isAgg169
  z139 := Tryz.sizeOf169
  v139 := Tryz.zeroValue169
  g3 := by kernel_rfl
  g4 := by kernel_rfl }
open Go.RowKit in
theorem Tryz.strings_TrimRight_one (s : ByteArray) (c : UInt8) (hc : c.toNat < 128) (w : World) (hs : s.size ≤ 9223372036854775807) :
    Calls Tryz.prog 100 #[.string s, .string ⟨#[c]⟩] w fun e w' => e = .returned (.string ⟨(Lib.trimRightB s.data.toList c).toArray⟩) ∧ w' = w := Any.strings_TrimRight_one Tryz.lays162 s c hc w hs
def Tryz.lays118_ren : Go.Shelf.Ren := ⟨fun | 118 => 90 | n => n, fun | 21 => 21 | 3 => 3 | 4 => 4 | n => n, fun | n => n⟩
theorem Tryz.lays118 : Go.Proofs.Lays.n118 Tryz.prog Tryz.lays118_ren := {
  mixed := by kernel_rfl
  f118 := Tryz.func90.trans (congrArg some (by kernel_rfl))
  t3 := Tryz.underlying3
  a3 := Tryz.isAgg3
  z3 := Tryz.sizeOf3
  v3 := Tryz.zeroValue3
  t4 := Tryz.underlying4
  a4 := Tryz.isAgg4
  z4 := Tryz.sizeOf4
  v4 := Tryz.zeroValue4
  t21 := Tryz.underlying21
  a21 := Tryz.isAgg21
  z21 := Tryz.sizeOf21
  v21 := Tryz.zeroValue21 }
theorem Tryz.utf8_RuneLen (r : Int) (w : World) :
    Calls Tryz.prog 90 #[.int .i32 r] w fun e w' => e = .returned (.int .i64 (Lib.runeLen r)) ∧ w' = w := Any.utf8_RuneLen Tryz.lays118 r w
def Tryz.lays210_ren : Go.Shelf.Ren := ⟨fun | 210 => 150 | 206 => 111 | n => n, fun | 9 => 9 | 4 => 4 | 3 => 3 | n => n, fun | n => n⟩
def Tryz.lays103_ren : Go.Shelf.Ren := ⟨fun | 103 => 129 | 210 => 150 | 206 => 111 | n => n, fun | 9 => 9 | 4 => 4 | 24 => 173 | 3 => 3 | n => n, fun | n => n⟩
theorem Tryz.lays103 : Go.Proofs.Lays.n103 Tryz.prog Tryz.lays103_ren := {
  mixed := by kernel_rfl
  f103 := Tryz.func129.trans (congrArg some (by kernel_rfl))
  f206 := Tryz.func111.trans (congrArg some (by kernel_rfl))
  f210 := Tryz.func150.trans (congrArg some (by kernel_rfl))
  t3 := Tryz.underlying3
  a3 := Tryz.isAgg3
  z3 := Tryz.sizeOf3
  v3 := Tryz.zeroValue3
  t4 := Tryz.underlying4
  a4 := Tryz.isAgg4
  z4 := Tryz.sizeOf4
  v4 := Tryz.zeroValue4
  t9 := Tryz.underlying9
  a9 := Tryz.isAgg9
  z9 := Tryz.sizeOf9
  v9 := Tryz.zeroValue9
  t24 := Tryz.underlying173
  a24 := Tryz.isAgg173
  z24 := Tryz.sizeOf173
  v24 := Tryz.zeroValue173 }
open Go.RowKit in
theorem Tryz.strings_CutPrefix (s p : ByteArray) (w : World) :
    Calls Tryz.prog 129 #[.string s, .string p] w fun e w' => e = .returned (.tuple #[.string ⟨(Lib.trimPrefix s.data.toList p.data.toList).toArray⟩, .bool (Lib.hasPrefix s.data.toList p.data.toList)]) ∧ w' = w := Any.strings_CutPrefix Tryz.lays103 s p w
def Tryz.lays195_ren : Go.Shelf.Ren := ⟨fun | 195 => 67 | n => n, fun | 9 => 9 | 3 => 3 | 0 => 0 | 4 => 4 | n => n, fun | n => n⟩
theorem Tryz.lays195 : Go.Proofs.Lays.n195 Tryz.prog Tryz.lays195_ren := {
  mixed := by kernel_rfl
  f195 := Tryz.func67.trans (congrArg some (by kernel_rfl))
  t0 := Tryz.underlying0
  a0 := Tryz.isAgg0
  z0 := Tryz.sizeOf0
  v0 := Tryz.zeroValue0
  t3 := Tryz.underlying3
  a3 := Tryz.isAgg3
  z3 := Tryz.sizeOf3
  v3 := Tryz.zeroValue3
  t4 := Tryz.underlying4
  a4 := Tryz.isAgg4
  z4 := Tryz.sizeOf4
  v4 := Tryz.zeroValue4
  t9 := Tryz.underlying9
  a9 := Tryz.isAgg9
  z9 := Tryz.sizeOf9
  v9 := Tryz.zeroValue9 }
open Go.RowKit in
theorem Tryz.utf8_RuneCountInString (s : ByteArray) (w : World) (hs : s.size < 9223372036854775807) :
    Calls Tryz.prog 67 #[.string s] w fun e w' => e = .returned (.int .i64 (Lib.runeCount s)) ∧ ∃ pos, w' = w.iter s pos := Any.utf8_RuneCountInString Tryz.lays195 s w hs
def Tryz.lays283_ren : Go.Shelf.Ren := ⟨fun | 283 => 133 | n => n, fun | 3 => 3 | 9 => 9 | 4 => 4 | n => n, fun | n => n⟩
theorem Tryz.lays283 : Go.Proofs.Lays.n283 Tryz.prog Tryz.lays283_ren := {
  mixed := by kernel_rfl
  f283 := Tryz.func133.trans (congrArg some (by kernel_rfl))
  t3 := Tryz.underlying3
  a3 := Tryz.isAgg3
  z3 := Tryz.sizeOf3
  v3 := Tryz.zeroValue3
  t4 := Tryz.underlying4
  a4 := Tryz.isAgg4
  z4 := Tryz.sizeOf4
  v4 := Tryz.zeroValue4
  t9 := Tryz.underlying9
  a9 := Tryz.isAgg9
  z9 := Tryz.sizeOf9
  v9 := Tryz.zeroValue9 }
open Go.Lib in
theorem Tryz.internal_strconv_small (i : Nat) (h : i < 100) (w : World) :
    Calls Tryz.prog 133 #[.int .i64 i] w fun e w' => e = .returned (.string ⟨(Lib.decDigits i).toArray⟩) ∧ w' = w := Any.internal_strconv_small Tryz.lays283 i h w
def Tryz.laysM284_ren : Go.Shelf.Ren := ⟨fun | 284 => 134 | 129 => 152 | 317 => 151 | 318 => 153 | n => n, fun | 53 => 140 | 3 => 3 | 212 => 190 | 0 => 0 | 4 => 4 | 46 => 166 | 5 => 5 | 9 => 9 | n => n, fun | 17 => 4 | n => n⟩
theorem Tryz.laysM284 : Go.Proofs.LaysM.n284 Tryz.prog Tryz.laysM284_ren := {
  mixed := by kernel_rfl
  f129 := Tryz.func152.trans (congrArg some (by kernel_rfl))
  f284 := Tryz.func134.trans (congrArg some (by kernel_rfl))
  f317 := Tryz.func151.trans (congrArg some (by kernel_rfl))
  f318 := Tryz.func153.trans (congrArg some (by kernel_rfl))
  t0 := Tryz.underlying0
  a0 := Tryz.isAgg0
  z0 := Tryz.sizeOf0
  v0 := Tryz.zeroValue0
  t3 := Tryz.underlying3
  a3 := Tryz.isAgg3
  z3 := Tryz.sizeOf3
  v3 := Tryz.zeroValue3
  t4 := Tryz.underlying4
  a4 := Tryz.isAgg4
  z4 := Tryz.sizeOf4
  v4 := Tryz.zeroValue4
  t5 := Tryz.underlying5
  a5 := Tryz.isAgg5
  z5 := Tryz.sizeOf5
  v5 := Tryz.zeroValue5
  t9 := Tryz.underlying9
  a9 := Tryz.isAgg9
  z9 := Tryz.sizeOf9
  v9 := Tryz.zeroValue9
  t46 := Tryz.underlying166
  a46 := Tryz.isAgg166
  z46 := Tryz.sizeOf166
  v46 := Tryz.zeroValue166
  t53 := Tryz.underlying140
  a53 := Tryz.isAgg140
  z53 := Tryz.sizeOf140
  v53 := Tryz.zeroValue140
  t212 := Tryz.underlying190
  a212 := Tryz.isAgg190
  z212 := Tryz.sizeOf190
  v212 := Tryz.zeroValue190
  g17 := by kernel_rfl
  i0 := by kernel_rfl
  i3 := by kernel_rfl
  i4 := by kernel_rfl
  i5 := by kernel_rfl
  i9 := by kernel_rfl
  i46 := by kernel_rfl
  i53 := by kernel_rfl
  i212 := by kernel_rfl
  m17 := by kernel_rfl }
open Go.Lib in
theorem Tryz.internal_strconv_numDigits (u : Nat) (h1 : 1 ≤ u) (h2 : u < 18446744073709551616) (w : World) (htab : Lib.TabIs Tryz.prog w "internal/strconv.uint64pow10" .u64 Lib.pow10Tab) :
    Calls Tryz.prog 134 #[.int .u64 u] w fun e w' => e = .returned (.int .i64 (Lib.nDigits u)) ∧ w' = w := Any.internal_strconv_numDigits Tryz.laysM284 u h1 h2 w htab
def Tryz.lays285_ren : Go.Shelf.Ren := ⟨fun | 285 => 135 | n => n, fun | 37 => 104 | 53 => 140 | 3 => 3 | 4 => 4 | 51 => 172 | 9 => 9 | 5 => 5 | 0 => 0 | n => n, fun | n => n⟩
theorem Tryz.lays285 : Go.Proofs.Lays.n285 Tryz.prog Tryz.lays285_ren := {
  mixed := by kernel_rfl
  f285 := Tryz.func135.trans (congrArg some (by kernel_rfl))
  t0 := Tryz.underlying0
  a0 := Tryz.isAgg0
  z0 := Tryz.sizeOf0
  v0 := Tryz.zeroValue0
  t3 := Tryz.underlying3
  a3 := Tryz.isAgg3
  z3 := Tryz.sizeOf3
  v3 := Tryz.zeroValue3
  t4 := Tryz.underlying4
  a4 := Tryz.isAgg4
  z4 := Tryz.sizeOf4
  v4 := Tryz.zeroValue4
  t5 := Tryz.underlying5
  a5 := Tryz.isAgg5
  z5 := Tryz.sizeOf5
  v5 := Tryz.zeroValue5
  t9 := Tryz.underlying9
  a9 := Tryz.isAgg9
  z9 := Tryz.sizeOf9
  v9 := Tryz.zeroValue9
  t37 := Tryz.underlying104
  a37 := Tryz.isAgg104
  z37 := Tryz.sizeOf104
  v37 := Tryz.zeroValue104
  t51 := Tryz.underlying172
  a51 := Tryz.isAgg172
  z51 := Tryz.sizeOf172
  v51 := Tryz.zeroValue172
  t53 := Tryz.underlying140
  a53 := Tryz.isAgg140
  z53 := Tryz.sizeOf140
  v53 := Tryz.zeroValue140 }
open Go.RowKit Go.Sort Go.Lib in
theorem Tryz.internal_strconv_formatBase10 (blk off cap : Nat) (u : Nat) (d : Array UInt8) (w : World) (hH : Holds (fun (b : UInt8) => Value.int .u8 (b.toNat : Int)) w blk off d) (hu : u < 10 ^ d.size) (hu64 : u < 18446744073709551616) (hsz : d.size < 4611686018427387904) :
    Calls Tryz.prog 135 #[.slice (some ⟨blk, off, none⟩) d.size cap, .int .u64 u] w fun e w' =>
      e = .returned (.tuple #[]) ∧ ∃ (n v' : Nat) (dk : Array UInt8), w' = (putRow (fun (b : UInt8) => Value.int .u8 (b.toNat : Int)) w blk off dk).drewN n ∧ FmtInv d.size u 0 v' dk := Any.internal_strconv_formatBase10 Tryz.lays285 blk off cap u d w hH hu hu64 hsz
def Tryz.laysM246_ren : Go.Shelf.Ren := ⟨fun | 246 => 142 | 283 => 133 | 284 => 134 | 285 => 135 | 286 => 136 | 129 => 152 | 317 => 151 | 318 => 153 | 319 => 154 | 320 => 155 | 337 => 162 | 338 => 163 | n => n, fun | 2 => 2 | 3 => 3 | 9 => 9 | 4 => 4 | 171 => 178 | 0 => 0 | 53 => 140 | 37 => 104 | 5 => 5 | 173 => 181 | 212 => 190 | 51 => 172 | 20 => 20 | 213 => 191 | 46 => 166 | 232 => 199 | 233 => 200 | n => n, fun | 17 => 4 | 18 => 5 | 19 => 6 | n => n⟩
def Tryz.laysM243_ren : Go.Shelf.Ren := ⟨fun | 243 => 124 | 246 => 142 | 283 => 133 | 284 => 134 | 285 => 135 | 286 => 136 | 129 => 152 | 317 => 151 | 318 => 153 | 319 => 154 | 320 => 155 | 337 => 162 | 338 => 163 | n => n, fun | 3 => 3 | 9 => 9 | 2 => 2 | 4 => 4 | 171 => 178 | 0 => 0 | 53 => 140 | 37 => 104 | 5 => 5 | 173 => 181 | 212 => 190 | 51 => 172 | 20 => 20 | 213 => 191 | 46 => 166 | 232 => 199 | 233 => 200 | n => n, fun | 17 => 4 | 18 => 5 | 19 => 6 | n => n⟩
def Tryz.laysM171_ren : Go.Shelf.Ren := ⟨fun | 171 => 105 | 243 => 124 | 246 => 142 | 283 => 133 | 284 => 134 | 285 => 135 | 286 => 136 | 129 => 152 | 317 => 151 | 318 => 153 | 319 => 154 | 320 => 155 | 337 => 162 | 338 => 163 | n => n, fun | 3 => 3 | 9 => 9 | 2 => 2 | 4 => 4 | 171 => 178 | 0 => 0 | 53 => 140 | 37 => 104 | 5 => 5 | 173 => 181 | 212 => 190 | 51 => 172 | 20 => 20 | 213 => 191 | 46 => 166 | 232 => 199 | 233 => 200 | n => n, fun | 17 => 4 | 18 => 5 | 19 => 6 | n => n⟩
theorem Tryz.laysM171 : Go.Proofs.LaysM.n171 Tryz.prog Tryz.laysM171_ren := {
  mixed := by kernel_rfl
  f129 := Tryz.func152.trans (congrArg some (by kernel_rfl))
  f171 := Tryz.func105.trans (congrArg some (by kernel_rfl))
  f243 := Tryz.func124.trans (congrArg some (by kernel_rfl))
  f246 := Tryz.func142.trans (congrArg some (by kernel_rfl))
  f283 := Tryz.func133.trans (congrArg some (by kernel_rfl))
  f284 := Tryz.func134.trans (congrArg some (by kernel_rfl))
  f285 := Tryz.func135.trans (congrArg some (by kernel_rfl))
  f286 := Tryz.func136.trans (congrArg some (by kernel_rfl))
  f317 := Tryz.func151.trans (congrArg some (by kernel_rfl))
  f318 := Tryz.func153.trans (congrArg some (by kernel_rfl))
  f319 := Tryz.func154.trans (congrArg some (by kernel_rfl))
  f320 := Tryz.func155.trans (congrArg some (by kernel_rfl))
  f337 := Tryz.func162.trans (congrArg some (by kernel_rfl))
  f338 := Tryz.func163.trans (congrArg some (by kernel_rfl))
  t0 := Tryz.underlying0
  a0 := Tryz.isAgg0
  z0 := Tryz.sizeOf0
  v0 := Tryz.zeroValue0
  t2 := Tryz.underlying2
  a2 := Tryz.isAgg2
  z2 := Tryz.sizeOf2
  v2 := Tryz.zeroValue2
  t3 := Tryz.underlying3
  a3 := Tryz.isAgg3
  z3 := Tryz.sizeOf3
  v3 := Tryz.zeroValue3
  t4 := Tryz.underlying4
  a4 := Tryz.isAgg4
  z4 := Tryz.sizeOf4
  v4 := Tryz.zeroValue4
  t5 := Tryz.underlying5
  a5 := Tryz.isAgg5
  z5 := Tryz.sizeOf5
  v5 := Tryz.zeroValue5
  t9 := Tryz.underlying9
  a9 := Tryz.isAgg9
  z9 := Tryz.sizeOf9
  v9 := Tryz.zeroValue9
  t20 := Tryz.underlying20
  a20 := Tryz.isAgg20
  z20 := Tryz.sizeOf20
  v20 := Tryz.zeroValue20
  t37 := Tryz.underlying104
  a37 := Tryz.isAgg104
  z37 := Tryz.sizeOf104
  v37 := Tryz.zeroValue104
  t46 := Tryz.underlying166
  a46 := Tryz.isAgg166
  z46 := Tryz.sizeOf166
  v46 := Tryz.zeroValue166
  t51 := Tryz.underlying172
  a51 := Tryz.isAgg172
  z51 := Tryz.sizeOf172
  v51 := Tryz.zeroValue172
  t53 := Tryz.underlying140
  a53 := Tryz.isAgg140
  z53 := Tryz.sizeOf140
  v53 := Tryz.zeroValue140
  t171 := Tryz.underlying178
  a171 := Tryz.isAgg178
  z171 := Tryz.sizeOf178
  v171 := Tryz.zeroValue178
  t173 := Tryz.underlying181
  a173 := Tryz.isAgg181
  z173 := Tryz.sizeOf181
  v173 := Tryz.zeroValue181
  t212 := Tryz.underlying190
  a212 := Tryz.isAgg190
  z212 := Tryz.sizeOf190
  v212 := Tryz.zeroValue190
  t213 := Tryz.underlying191
  a213 := Tryz.isAgg191
  z213 := Tryz.sizeOf191
  t232 := Tryz.underlying199
  a232 := Tryz.isAgg199
  z232 := Tryz.sizeOf199
  v232 := Tryz.zeroValue199
  t233 := Tryz.underlying200
  a233 := Tryz.isAgg200
  z233 := Tryz.sizeOf200
  v233 := Tryz.zeroValue200
  g17 := by kernel_rfl
  g18 := by kernel_rfl
  g19 := by kernel_rfl
  i0 := by kernel_rfl
  i2 := by kernel_rfl
  i3 := by kernel_rfl
  i4 := by kernel_rfl
  i5 := by kernel_rfl
  i9 := by kernel_rfl
  i20 := by kernel_rfl
  i37 := by kernel_rfl
  i46 := by kernel_rfl
  i51 := by kernel_rfl
  i53 := by kernel_rfl
  i171 := by kernel_rfl
  i173 := by kernel_rfl
  i212 := by kernel_rfl
  i232 := by kernel_rfl
  i233 := by kernel_rfl
  m17 := by kernel_rfl
  m18 := by kernel_rfl
  m19 := by kernel_rfl }
open Go.RowKit Go.Sort Go.Lib in
theorem Tryz.strconv_Itoa (n : Int) (h0 : -9223372036854775808 ≤ n) (h1 : n ≤ 9223372036854775807) (w : World) (htab : Lib.TabIs Tryz.prog w "internal/strconv.uint64pow10" .u64 Lib.pow10Tab) :
    Calls Tryz.prog 105 #[.int .i64 n] w fun e w' => e = .returned (.string ⟨(Lib.itoa n).toArray⟩) ∧ ∃ k os, w' = grow (w.drewN k) os := Any.strconv_Itoa Tryz.laysM171 n h0 h1 w htab
def Tryz.lays219_ren : Go.Shelf.Ren := ⟨fun | 219 => 128 | 217 => 146 | 225 => 147 | 224 => 148 | 267 => 149 | 266 => 160 | 314 => 161 | n => n, fun | 9 => 9 | 3 => 3 | 4 => 4 | 5 => 5 | 46 => 166 | 146 => 194 | 51 => 172 | n => n, fun | 1 => 3 | n => n⟩
theorem Tryz.lays219 : Go.Proofs.Lays.n219 Tryz.prog Tryz.lays219_ren := {
  mixed := by kernel_rfl
  f217 := Tryz.func146.trans (congrArg some (by kernel_rfl))
  f219 := Tryz.func128.trans (congrArg some (by kernel_rfl))
  f224 := Tryz.func148.trans (congrArg some (by kernel_rfl))
  f225 := Tryz.func147.trans (congrArg some (by kernel_rfl))
  f266 := Tryz.func160.trans (congrArg some (by kernel_rfl))
  f267 := Tryz.func149.trans (congrArg some (by kernel_rfl))
  f314 := Tryz.func161.trans (congrArg some (by kernel_rfl))
  t3 := Tryz.underlying3
  a3 := Tryz.isAgg3
  z3 := Tryz.sizeOf3
  v3 := Tryz.zeroValue3
  t4 := Tryz.underlying4
  a4 := Tryz.isAgg4
  z4 := Tryz.sizeOf4
  v4 := Tryz.zeroValue4
  t5 := Tryz.underlying5
  a5 := Tryz.isAgg5
  z5 := Tryz.sizeOf5
  v5 := Tryz.zeroValue5
  t9 := Tryz.underlying9
  a9 := Tryz.isAgg9
  z9 := Tryz.sizeOf9
  v9 := Tryz.zeroValue9
  t46 := Tryz.underlying166
  a46 := Tryz.isAgg166
  z46 := Tryz.sizeOf166
  v46 := Tryz.zeroValue166
  t51 := Tryz.underlying172
  a51 := Tryz.isAgg172
  z51 := Tryz.sizeOf172
  v51 := Tryz.zeroValue172
  t146 := Tryz.underlying194
  a146 := Tryz.isAgg194
  z146 := Tryz.sizeOf194
  v146 := Tryz.zeroValue194
  g1 := by kernel_rfl }
open Go.RowKit Go.Lib in
theorem Tryz.stringslite_Index_one (s : ByteArray) (c : UInt8) (w : World) :
    Calls Tryz.prog 128 #[.string s, .string ⟨#[c]⟩] w fun e w' => e = .returned (.int .i64 (Lib.indexByte s.data.toList c)) ∧ w' = w := Any.stringslite_Index_one Tryz.lays219 s c w
def Tryz.lays144_ren : Go.Shelf.Ren := ⟨fun | 144 => 94 | 143 => 112 | 219 => 128 | 217 => 146 | 225 => 147 | 224 => 148 | 267 => 149 | 266 => 160 | 314 => 161 | n => n, fun | 9 => 9 | 4 => 4 | 3 => 3 | 5 => 5 | 46 => 166 | 146 => 194 | 51 => 172 | n => n, fun | 1 => 3 | n => n⟩
theorem Tryz.lays144 : Go.Proofs.Lays.n144 Tryz.prog Tryz.lays144_ren := {
  mixed := by kernel_rfl
  f143 := Tryz.func112.trans (congrArg some (by kernel_rfl))
  f144 := Tryz.func94.trans (congrArg some (by kernel_rfl))
  f217 := Tryz.func146.trans (congrArg some (by kernel_rfl))
  f219 := Tryz.func128.trans (congrArg some (by kernel_rfl))
  f224 := Tryz.func148.trans (congrArg some (by kernel_rfl))
  f225 := Tryz.func147.trans (congrArg some (by kernel_rfl))
  f266 := Tryz.func160.trans (congrArg some (by kernel_rfl))
  f267 := Tryz.func149.trans (congrArg some (by kernel_rfl))
  f314 := Tryz.func161.trans (congrArg some (by kernel_rfl))
  t3 := Tryz.underlying3
  a3 := Tryz.isAgg3
  z3 := Tryz.sizeOf3
  v3 := Tryz.zeroValue3
  t4 := Tryz.underlying4
  a4 := Tryz.isAgg4
  z4 := Tryz.sizeOf4
  v4 := Tryz.zeroValue4
  t5 := Tryz.underlying5
  a5 := Tryz.isAgg5
  z5 := Tryz.sizeOf5
  v5 := Tryz.zeroValue5
  t9 := Tryz.underlying9
  a9 := Tryz.isAgg9
  z9 := Tryz.sizeOf9
  v9 := Tryz.zeroValue9
  t46 := Tryz.underlying166
  a46 := Tryz.isAgg166
  z46 := Tryz.sizeOf166
  v46 := Tryz.zeroValue166
  t51 := Tryz.underlying172
  a51 := Tryz.isAgg172
  z51 := Tryz.sizeOf172
  v51 := Tryz.zeroValue172
  t146 := Tryz.underlying194
  a146 := Tryz.isAgg194
  z146 := Tryz.sizeOf194
  v146 := Tryz.zeroValue194
  g1 := by kernel_rfl }
open Go.RowKit Go.Lib in
theorem Tryz.strings_Contains_one (s : ByteArray) (c : UInt8) (w : World) :
    Calls Tryz.prog 94 #[.string s, .string ⟨#[c]⟩] w fun e w' => e = .returned (.bool (decide (0 ≤ Lib.indexByte s.data.toList c))) ∧ w' = w := Any.strings_Contains_one Tryz.lays144 s c w
def Tryz.lays99_ren : Go.Shelf.Ren := ⟨fun | 99 => 93 | 206 => 111 | n => n, fun | 9 => 9 | 4 => 4 | 3 => 3 | n => n, fun | n => n⟩
theorem Tryz.lays99 : Go.Proofs.Lays.n99 Tryz.prog Tryz.lays99_ren := {
  mixed := by kernel_rfl
  f99 := Tryz.func93.trans (congrArg some (by kernel_rfl))
  f206 := Tryz.func111.trans (congrArg some (by kernel_rfl))
  t3 := Tryz.underlying3
  a3 := Tryz.isAgg3
  z3 := Tryz.sizeOf3
  v3 := Tryz.zeroValue3
  t4 := Tryz.underlying4
  a4 := Tryz.isAgg4
  z4 := Tryz.sizeOf4
  v4 := Tryz.zeroValue4
  t9 := Tryz.underlying9
  a9 := Tryz.isAgg9
  z9 := Tryz.sizeOf9
  v9 := Tryz.zeroValue9 }
open Go.RowKit Go.Lib in
theorem Tryz.strings_HasPrefix (s p : ByteArray) (w : World) :
    Calls Tryz.prog 93 #[.string s, .string p] w fun e w' => e = .returned (.bool (Lib.hasPrefix s.data.toList p.data.toList)) ∧ w' = w := Any.strings_HasPrefix Tryz.lays99 s p w
def Tryz.lays154_ren : Go.Shelf.Ren := ⟨fun | 154 => 123 | 138 => 140 | 165 => 141 | 143 => 112 | 166 => 72 | 197 => 84 | 169 => 53 | 195 => 67 | 218 => 158 | 240 => 97 | 241 => 159 | 219 => 128 | 260 => 106 | 276 => 117 | 277 => 166 | 217 => 146 | 225 => 147 | 224 => 148 | 267 => 149 | 266 => 160 | 314 => 161 | n => n, fun | 9 => 9 | 3 => 3 | 4 => 4 | 72 => 106 | 0 => 0 | 76 => 125 | 105 => 116 | 21 => 21 | 5 => 5 | 70 => 103 | 20 => 20 | 37 => 104 | 75 => 124 | 127 => 132 | 164 => 155 | 46 => 166 | 119 => 165 | 139 => 169 | 138 => 168 | 146 => 194 | 51 => 172 | 80 => 108 | n => n, fun | 1 => 3 | 3 => 1 | 4 => 2 | n => n⟩
def Tryz.lays155_ren : Go.Shelf.Ren := ⟨fun | 155 => 101 | 154 => 123 | 138 => 140 | 165 => 141 | 143 => 112 | 166 => 72 | 197 => 84 | 169 => 53 | 195 => 67 | 218 => 158 | 240 => 97 | 241 => 159 | 219 => 128 | 260 => 106 | 276 => 117 | 277 => 166 | 217 => 146 | 225 => 147 | 224 => 148 | 267 => 149 | 266 => 160 | 314 => 161 | n => n, fun | 9 => 9 | 3 => 3 | 4 => 4 | 72 => 106 | 0 => 0 | 76 => 125 | 105 => 116 | 21 => 21 | 5 => 5 | 70 => 103 | 20 => 20 | 37 => 104 | 75 => 124 | 127 => 132 | 164 => 155 | 46 => 166 | 119 => 165 | 139 => 169 | 138 => 168 | 146 => 194 | 51 => 172 | 80 => 108 | n => n, fun | 1 => 3 | 3 => 1 | 4 => 2 | n => n⟩
theorem Tryz.lays155 : Go.Proofs.Lays.n155 Tryz.prog Tryz.lays155_ren := {
  mixed := by kernel_rfl
  f138 := Tryz.func140.trans (congrArg some (by kernel_rfl))
  f143 := Tryz.func112.trans (congrArg some (by kernel_rfl))
  f154 := Tryz.func123.trans (congrArg some (by kernel_rfl))
  f155 := Tryz.func101.trans (congrArg some (by kernel_rfl))
  f165 := Tryz.func141.trans (congrArg some (by kernel_rfl))
  f166 := Tryz.func72.trans (congrArg some (by kernel_rfl))
  f169 := Tryz.func53.trans (congrArg some (by kernel_rfl))
  f195 := Tryz.func67.trans (congrArg some (by kernel_rfl))
  f197 := Tryz.func84.trans (congrArg some (by kernel_rfl))
  f217 := Tryz.func146.trans (congrArg some (by kernel_rfl))
  f218 := Tryz.func158.trans (congrArg some (by kernel_rfl))
  f219 := Tryz.func128.trans (congrArg some (by kernel_rfl))
  f224 := Tryz.func148.trans (congrArg some (by kernel_rfl))
  f225 := Tryz.func147.trans (congrArg some (by kernel_rfl))
  f240 := Tryz.func97.trans (congrArg some (by kernel_rfl))
  f241 := Tryz.func159.trans (congrArg some (by kernel_rfl))
  f260 := Tryz.func106.trans (congrArg some (by kernel_rfl))
  f266 := Tryz.func160.trans (congrArg some (by kernel_rfl))
  f267 := Tryz.func149.trans (congrArg some (by kernel_rfl))
  f276 := Tryz.func117.trans (congrArg some (by kernel_rfl))
  f277 := Tryz.func166.trans (congrArg some (by kernel_rfl))
  f314 := Tryz.func161.trans (congrArg some (by kernel_rfl))
  t0 := Tryz.underlying0
  a0 := Tryz.isAgg0
  z0 := Tryz.sizeOf0
  v0 := Tryz.zeroValue0
  t3 := Tryz.underlying3
  a3 := Tryz.isAgg3
  z3 := Tryz.sizeOf3
  v3 := Tryz.zeroValue3
  t4 := Tryz.underlying4
  a4 := Tryz.isAgg4
  z4 := Tryz.sizeOf4
  v4 := Tryz.zeroValue4
  t5 := Tryz.underlying5
  a5 := Tryz.isAgg5
  z5 := Tryz.sizeOf5
  v5 := Tryz.zeroValue5
  t9 := Tryz.underlying9
  a9 := Tryz.isAgg9
  z9 := Tryz.sizeOf9
  v9 := Tryz.zeroValue9
  t20 := Tryz.underlying20
  a20 := Tryz.isAgg20
  z20 := Tryz.sizeOf20
  v20 := Tryz.zeroValue20
  t21 := Tryz.underlying21
  a21 := Tryz.isAgg21
  z21 := Tryz.sizeOf21
  v21 := Tryz.zeroValue21
  t37 := Tryz.underlying104
  a37 := Tryz.isAgg104
  z37 := Tryz.sizeOf104
  v37 := Tryz.zeroValue104
  t46 := Tryz.underlying166
  a46 := Tryz.isAgg166
  z46 := Tryz.sizeOf166
  v46 := Tryz.zeroValue166
  t51 := Tryz.underlying172
  a51 := Tryz.isAgg172
  z51 := Tryz.sizeOf172
  v51 := Tryz.zeroValue172
  t70 := Tryz.underlying103
  a70 := Tryz.isAgg103
  z70 := Tryz.sizeOf103
  v70 := Tryz.zeroValue103
  t72 := Tryz.underlying106
  a72 := Tryz.isAgg106
  z72 := Tryz.sizeOf106
  v72 := Tryz.zeroValue106
  t75 := Tryz.underlying124
  a75 := Tryz.isAgg124
  z75 := Tryz.sizeOf124
  v75 := Tryz.zeroValue124
  t76 := Tryz.underlying125
  a76 := Tryz.isAgg125
  z76 := Tryz.sizeOf125
  v76 := Tryz.zeroValue125
  t105 := Tryz.underlying116
  a105 := Tryz.isAgg116
  z105 := Tryz.sizeOf116
  v105 := Tryz.zeroValue116
  t119 := Tryz.underlying165
  a119 := Tryz.isAgg165
  z119 := Tryz.sizeOf165
  t127 := Tryz.underlying132
  a127 := Tryz.isAgg132
  z127 := Tryz.sizeOf132
  v127 := Tryz.zeroValue132
  t138 := Tryz.underlying168
  a138 := Tryz.isAgg168
  z138 := Tryz.sizeOf168
  v138 := Tryz.zeroValue168
  t139 := Tryz.underlying169
  a139 := Tryz.isAgg169
  z139 := Tryz.sizeOf169
  v139 := Tryz.zeroValue169
  t146 := Tryz.underlying194
  a146 := Tryz.isAgg194
  z146 := Tryz.sizeOf194
  v146 := Tryz.zeroValue194
  t164 := Tryz.underlying155
  a164 := Tryz.isAgg155
  z164 := Tryz.sizeOf155
  v164 := Tryz.zeroValue155
  g1 := by kernel_rfl
  g3 := by kernel_rfl
  g4 := by kernel_rfl }
theorem Tryz.Builder_Extra_155 : Builder.Extra Tryz.prog Tryz.lays155_ren := {
  sizeBuilder := by kernel_rfl
  liesBuilder := by kernel_rfl
  t5 := Tryz.underlying5
  a5 := Tryz.isAgg5
  z5 := Tryz.sizeOf5
  v5 := Tryz.zeroValue5
  infoByte := by kernel_rfl
  cellsByte := by kernel_rfl
  sizeByte := by kernel_rfl
  neB5 := by decide }
open Go.RowKit Go.Lib in
theorem Tryz.strings_ReplaceAll (s old new : ByteArray) (m : Int) (w : World) (hs : s.size < 4294967281) (hm : w.cell? ⟨3, 0, none⟩ = some (.int .i64 m)) (h1 : 1 ≤ old.size) (hlen : s.size + Lib.countB s old * new.size ≤ 140737488355328) :
    Calls Tryz.prog 101 #[.string s, .string old, .string new] w fun e w' =>
      e = .returned (.string ⟨(Lib.replaceAll s.data.toList old.data.toList new.data.toList).toArray⟩) ∧ Below w.heap.size w w' := Any.strings_ReplaceAll Tryz.lays155 Tryz.Builder_Extra_155 s old new m w hs hm h1 hlen
def Tryz.laysM155_ren : Go.Shelf.Ren := ⟨fun | 155 => 101 | 154 => 123 | 138 => 140 | 165 => 141 | 143 => 112 | 166 => 72 | 197 => 84 | 169 => 53 | 195 => 67 | 218 => 158 | 240 => 97 | 241 => 159 | 219 => 128 | 260 => 106 | 276 => 117 | 277 => 166 | 217 => 146 | 225 => 147 | 224 => 148 | 267 => 149 | 266 => 160 | 314 => 161 | n => n, fun | 9 => 9 | 3 => 3 | 4 => 4 | 72 => 106 | 0 => 0 | 76 => 125 | 105 => 116 | 21 => 21 | 5 => 5 | 70 => 103 | 20 => 20 | 37 => 104 | 75 => 124 | 127 => 132 | 164 => 155 | 46 => 166 | 119 => 165 | 139 => 169 | 138 => 168 | 146 => 194 | 51 => 172 | 80 => 108 | n => n, fun | 1 => 3 | 3 => 1 | 4 => 2 | n => n⟩
theorem Tryz.laysM155 : Go.Proofs.LaysM.n155 Tryz.prog Tryz.laysM155_ren := {
  mixed := by kernel_rfl
  f138 := Tryz.func140.trans (congrArg some (by kernel_rfl))
  f143 := Tryz.func112.trans (congrArg some (by kernel_rfl))
  f154 := Tryz.func123.trans (congrArg some (by kernel_rfl))
  f155 := Tryz.func101.trans (congrArg some (by kernel_rfl))
  f165 := Tryz.func141.trans (congrArg some (by kernel_rfl))
  f166 := Tryz.func72.trans (congrArg some (by kernel_rfl))
  f169 := Tryz.func53.trans (congrArg some (by kernel_rfl))
  f195 := Tryz.func67.trans (congrArg some (by kernel_rfl))
  f197 := Tryz.func84.trans (congrArg some (by kernel_rfl))
  f217 := Tryz.func146.trans (congrArg some (by kernel_rfl))
  f218 := Tryz.func158.trans (congrArg some (by kernel_rfl))
  f219 := Tryz.func128.trans (congrArg some (by kernel_rfl))
  f224 := Tryz.func148.trans (congrArg some (by kernel_rfl))
  f225 := Tryz.func147.trans (congrArg some (by kernel_rfl))
  f240 := Tryz.func97.trans (congrArg some (by kernel_rfl))
  f241 := Tryz.func159.trans (congrArg some (by kernel_rfl))
  f260 := Tryz.func106.trans (congrArg some (by kernel_rfl))
  f266 := Tryz.func160.trans (congrArg some (by kernel_rfl))
  f267 := Tryz.func149.trans (congrArg some (by kernel_rfl))
  f276 := Tryz.func117.trans (congrArg some (by kernel_rfl))
  f277 := Tryz.func166.trans (congrArg some (by kernel_rfl))
  f314 := Tryz.func161.trans (congrArg some (by kernel_rfl))
  t0 := Tryz.underlying0
  a0 := Tryz.isAgg0
  z0 := Tryz.sizeOf0
  v0 := Tryz.zeroValue0
  t3 := Tryz.underlying3
  a3 := Tryz.isAgg3
  z3 := Tryz.sizeOf3
  v3 := Tryz.zeroValue3
  t4 := Tryz.underlying4
  a4 := Tryz.isAgg4
  z4 := Tryz.sizeOf4
  v4 := Tryz.zeroValue4
  t5 := Tryz.underlying5
  a5 := Tryz.isAgg5
  z5 := Tryz.sizeOf5
  v5 := Tryz.zeroValue5
  t9 := Tryz.underlying9
  a9 := Tryz.isAgg9
  z9 := Tryz.sizeOf9
  v9 := Tryz.zeroValue9
  t20 := Tryz.underlying20
  a20 := Tryz.isAgg20
  z20 := Tryz.sizeOf20
  v20 := Tryz.zeroValue20
  t21 := Tryz.underlying21
  a21 := Tryz.isAgg21
  z21 := Tryz.sizeOf21
  v21 := Tryz.zeroValue21
  t37 := Tryz.underlying104
  a37 := Tryz.isAgg104
  z37 := Tryz.sizeOf104
  v37 := Tryz.zeroValue104
  t46 := Tryz.underlying166
  a46 := Tryz.isAgg166
  z46 := Tryz.sizeOf166
  v46 := Tryz.zeroValue166
  t51 := Tryz.underlying172
  a51 := Tryz.isAgg172
  z51 := Tryz.sizeOf172
  v51 := Tryz.zeroValue172
  t70 := Tryz.underlying103
  a70 := Tryz.isAgg103
  z70 := Tryz.sizeOf103
  v70 := Tryz.zeroValue103
  t72 := Tryz.underlying106
  a72 := Tryz.isAgg106
  z72 := Tryz.sizeOf106
  v72 := Tryz.zeroValue106
  t75 := Tryz.underlying124
  a75 := Tryz.isAgg124
  z75 := Tryz.sizeOf124
  v75 := Tryz.zeroValue124
  t76 := Tryz.underlying125
  a76 := Tryz.isAgg125
  z76 := Tryz.sizeOf125
  v76 := Tryz.zeroValue125
  t105 := Tryz.underlying116
  a105 := Tryz.isAgg116
  z105 := Tryz.sizeOf116
  v105 := Tryz.zeroValue116
  t119 := Tryz.underlying165
  a119 := Tryz.isAgg165
  z119 := Tryz.sizeOf165
  t127 := Tryz.underlying132
  a127 := Tryz.isAgg132
  z127 := Tryz.sizeOf132
  v127 := Tryz.zeroValue132
  t138 := Tryz.underlying168
  a138 := Tryz.isAgg168
  z138 := Tryz.sizeOf168
  v138 := Tryz.zeroValue168
  t139 := Tryz.underlying169
  a139 := Tryz.isAgg169
  z139 := Tryz.sizeOf169
  v139 := Tryz.zeroValue169
  t146 := Tryz.underlying194
  a146 := Tryz.isAgg194
  z146 := Tryz.sizeOf194
  v146 := Tryz.zeroValue194
  t164 := Tryz.underlying155
  a164 := Tryz.isAgg155
  z164 := Tryz.sizeOf155
  v164 := Tryz.zeroValue155
  g1 := by kernel_rfl
  g3 := by kernel_rfl
  g4 := by kernel_rfl
  t80 := Tryz.underlying108
  a80 := Tryz.isAgg108
  z80 := Tryz.sizeOf108
  v80 := Tryz.zeroValue108
  i0 := by kernel_rfl
  i3 := by kernel_rfl
  i4 := by kernel_rfl
  i5 := by kernel_rfl
  i9 := by kernel_rfl
  i20 := by kernel_rfl
  i21 := by kernel_rfl
  i37 := by kernel_rfl
  i46 := by kernel_rfl
  i51 := by kernel_rfl
  i70 := by kernel_rfl
  i72 := by kernel_rfl
  i75 := by kernel_rfl
  i76 := by kernel_rfl
  i80 := by kernel_rfl
  i105 := by kernel_rfl
  i127 := by kernel_rfl
  i138 := by kernel_rfl
  i139 := by kernel_rfl
  i146 := by kernel_rfl
  i164 := by kernel_rfl
  m1 := by kernel_rfl
  s1_3 := fun w h => Go.Proofs.cell_of_shapedOpen_int (zero := #[.int .i64 0]) (t := 3) h (of_decide_eq_true (by kernel_rfl)) (by kernel_rfl) rfl (by kernel_rfl) (by kernel_rfl) Tryz.underlying3
  m3 := by kernel_rfl
  m4 := by kernel_rfl }
def Tryz.lays197_ren : Go.Shelf.Ren := ⟨fun | 197 => 84 | 260 => 106 | n => n, fun | 9 => 9 | 21 => 21 | 3 => 3 | 4 => 4 | 5 => 5 | 105 => 116 | 119 => 165 | 0 => 0 | 46 => 166 | 139 => 169 | 138 => 168 | n => n, fun | 3 => 1 | 4 => 2 | n => n⟩
theorem Tryz.lays197 : Go.Proofs.Lays.n197 Tryz.prog Tryz.lays197_ren := {
  mixed := by kernel_rfl
  f197 := Tryz.func84.trans (congrArg some (by kernel_rfl))
  f260 := Tryz.func106.trans (congrArg some (by kernel_rfl))
  t0 := Tryz.underlying0
  a0 := Tryz.isAgg0
  z0 := Tryz.sizeOf0
  v0 := Tryz.zeroValue0
  t3 := Tryz.underlying3
  a3 := Tryz.isAgg3
  z3 := Tryz.sizeOf3
  v3 := Tryz.zeroValue3
  t4 := Tryz.underlying4
  a4 := Tryz.isAgg4
  z4 := Tryz.sizeOf4
  v4 := Tryz.zeroValue4
  t5 := Tryz.underlying5
  a5 := Tryz.isAgg5
  z5 := Tryz.sizeOf5
  v5 := Tryz.zeroValue5
  t9 := Tryz.underlying9
  a9 := Tryz.isAgg9
  z9 := Tryz.sizeOf9
  v9 := Tryz.zeroValue9
  t21 := Tryz.underlying21
  a21 := Tryz.isAgg21
  z21 := Tryz.sizeOf21
  v21 := Tryz.zeroValue21
  t46 := Tryz.underlying166
  a46 := Tryz.isAgg166
  z46 := Tryz.sizeOf166
  v46 := Tryz.zeroValue166
  t105 := Tryz.underlying116
  a105 := Tryz.isAgg116
  z105 := Tryz.sizeOf116
  v105 := Tryz.zeroValue116
  t119 := Tryz.underlying165
  a119 := Tryz.isAgg165
  z119 := Tryz.sizeOf165
  t138 := Tryz.underlying168
  a138 := Tryz.isAgg168
  z138 := Tryz.sizeOf168
  v138 := Tryz.zeroValue168
  t139 := Tryz.underlying169
  a139 := Tryz.isAgg169
  z139 := Tryz.sizeOf169
  v139 := Tryz.zeroValue169
  g3 := by kernel_rfl
  g4 := by kernel_rfl }
def Tryz.lays260_ren : Go.Shelf.Ren := ⟨fun | 260 => 106 | n => n, fun | 9 => 9 | 21 => 21 | 3 => 3 | 4 => 4 | 5 => 5 | 119 => 165 | 0 => 0 | 46 => 166 | 139 => 169 | 138 => 168 | n => n, fun | 3 => 1 | 4 => 2 | n => n⟩
theorem Tryz.lays260 : Go.Proofs.Lays.n260 Tryz.prog Tryz.lays260_ren := {
  mixed := by kernel_rfl
  f260 := Tryz.func106.trans (congrArg some (by kernel_rfl))
  t0 := Tryz.underlying0
  a0 := Tryz.isAgg0
  z0 := Tryz.sizeOf0
  v0 := Tryz.zeroValue0
  t3 := Tryz.underlying3
  a3 := Tryz.isAgg3
  z3 := Tryz.sizeOf3
  v3 := Tryz.zeroValue3
  t4 := Tryz.underlying4
  a4 := Tryz.isAgg4
  z4 := Tryz.sizeOf4
  v4 := Tryz.zeroValue4
  t5 := Tryz.underlying5
  a5 := Tryz.isAgg5
  z5 := Tryz.sizeOf5
  v5 := Tryz.zeroValue5
  t9 := Tryz.underlying9
  a9 := Tryz.isAgg9
  z9 := Tryz.sizeOf9
  v9 := Tryz.zeroValue9
  t21 := Tryz.underlying21
  a21 := Tryz.isAgg21
  z21 := Tryz.sizeOf21
  v21 := Tryz.zeroValue21
  t46 := Tryz.underlying166
  a46 := Tryz.isAgg166
  z46 := Tryz.sizeOf166
  v46 := Tryz.zeroValue166
  t119 := Tryz.underlying165
  a119 := Tryz.isAgg165
  z119 := Tryz.sizeOf165
  t138 := Tryz.underlying168
  a138 := Tryz.isAgg168
  z138 := Tryz.sizeOf168
  v138 := Tryz.zeroValue168
  t139 := Tryz.underlying169
  a139 := Tryz.isAgg169
  z139 := Tryz.sizeOf169
  v139 := Tryz.zeroValue169
  g3 := by kernel_rfl
  g4 := by kernel_rfl }
open Go.RowKit Go.Lib in
theorem Tryz.utf8_DecodeRuneInString (s : ByteArray) (w : World) (hT : Lib.Utf8Tabs 1 2 w) :
    Calls Tryz.prog 84 #[.string s] w fun e w' => e = .returned (.tuple #[.int .i32 (Lib.decodeGo s).1, .int .i64 (Lib.decodeGo s).2]) ∧ Below w.heap.size w w' := Any.utf8_DecodeRuneInString Tryz.lays197 s w hT
end Go.Proofs
namespace Go.A
open Go.Proofs
set_option linter.unusedSimpArgs false
set_option linter.unusedVariables false
section
variable {P : Program} {σ : ASt} {w : World}
theorem reps_ints {k : IntKind} : ∀ {zs : List Int} {vs : List Value}, Reps σ w (zs.map (AV.int k)) vs → vs = zs.map (Value.int k)
  | [], vs, h => by cases h; rfl
  | z :: zs, vs, h => by
    cases h with
    | cons h1 h2 =>
      cases h1
      rw [reps_ints h2]
      rfl
theorem tabIs_of (hs : Sim σ w) {name : String} {b : Nat} {k : IntKind} {zs : List Int} (hg : P.globalNamed name = some b) (hb : σ b = some (.fix (zs.map (AV.int k)))) : Lib.TabIs P w name k zs := by
  obtain ⟨h1, c, T, fr, h2, h3⟩ := hs b _ hb
  obtain ⟨vs, h4, h5⟩ := h1.vals
  have h6 := reps_ints h4
  subst h6
  unfold Lib.TabIs World.var?
  rw [hg, Option.bind_some]
  simp only [h2]
  congr 1
  apply Array.ext
  · simp [h3]
  · intro j hj hj'
    have h7 := h5 j (Value.int k (zs[j]'(by simpa using hj'))) (by simp)
    simp only [World.cell?, h2, Nat.zero_add] at h7
    simp at h7 ⊢
    obtain ⟨_, h7⟩ := Array.getElem?_eq_some_iff.1 h7
    exact h7
theorem ACalls.of_ext {f : FuncId} {args : List AV} {r : AV} {u : Value} (h : ∀ w vs, Sim σ w → Reps σ w args vs → Calls P f ⟨vs⟩ w fun e w' => e = .returned u ∧ Ext w w') (hr : ∀ w, Rep σ w r u) : ACalls P f args σ fun v σ' => v = r ∧ σ' = σ :=
  fun w vs hs ha => (h w vs hs ha).mono fun e w' ⟨he, hx⟩ => ⟨u, r, σ, he, ⟨rfl, rfl⟩, ext_le hx, hs.ext hx, hr w'⟩
theorem ext_grow (w : World) (k : Nat) (os : Array Obj) : Ext w (Go.Sort.grow (w.drewN k) os) := ⟨⟨os, w.drawn + k⟩, rfl⟩
end
theorem Ext.of_eq {w w' : World} (h : w' = w) : Ext w w' := h ▸ Ext.refl w
def Tab (σ : ASt) : Prop := σ 4 = some (.fix (Lib.pow10Tab.map (AV.int .u64)))
theorem Tab.set {σ : ASt} {b : Nat} {r : Option Role} (h : Tab σ) (hb : σ b = none) : Tab (σ.set b r) := by
  unfold Tab at *
  rw [ASt.set_ne]
  · exact h
  · intro e; rw [← e, h] at hb; cases hb
end Go.A
namespace Go.A
open Go.Proofs
theorem itoa_ok {σ : ASt} (h : Tab σ) {n : Int} (h0 : -9223372036854775808 ≤ n) (h1 : n ≤ 9223372036854775807) : ACalls Tryz.prog 105 [.int .i64 n] σ fun v σ' => v = .str (Lib.itoa n) ∧ σ' = σ := by
  refine ACalls.of_ext (u := .string ⟨(Lib.itoa n).toArray⟩) (fun w vs hs ha => ?_) fun w => .str _
  cases ha with
  | cons h2 h3 =>
    cases h2; cases h3
    refine (Tryz.strconv_Itoa n h0 h1 w (tabIs_of hs (by kernel_rfl) h)).mono ?_
    rintro e w' ⟨he, k, os, rfl⟩
    exact ⟨he, ext_grow w k os⟩
end Go.A
namespace Go.A
open Go.Proofs Go.Lib
set_option maxRecDepth 100000
set_option linter.unusedSimpArgs false
set_option linter.unusedVariables false
def accTab : List Int := (List.range 16).flatMap fun i => [(accLo i : Int), (accHi i : Int)]
def U8 (σ : ASt) : Prop := σ 1 = some (.fix (firstTab.map (AV.int .u8))) ∧ σ 2 = some (.fix (accTab.map (AV.int .u8)))
theorem U8.of_eq {σ σ' : ASt} (h : U8 σ) (h1 : σ' 1 = σ 1) (h2 : σ' 2 = σ 2) : U8 σ' := ⟨h1.trans h.1, h2.trans h.2⟩
theorem U8.set {σ : ASt} {b : Nat} {r : Option Role} (h : U8 σ) (hb : σ b = none) : U8 (σ.set b r) := by
  refine h.of_eq (ASt.set_ne ?_) (ASt.set_ne ?_) <;> rintro rfl
  · rw [h.1] at hb; cases hb
  · rw [h.2] at hb; cases hb
theorem fix_ints {σ : ASt} {w : World} (hs : Sim σ w) {b : Nat} {k : IntKind} {zs : List Int} (h : σ b = some (.fix (zs.map (AV.int k)))) : ∀ j z, zs[j]? = some z → w.cell? ⟨b, j, none⟩ = some (.int k z) := by
  intro j z hj
  obtain ⟨vs, h4, h5⟩ := (hs b _ h).1.vals
  have h6 := reps_ints h4
  subst h6
  have := h5 j (Value.int k z) (by simp [hj])
  simpa using this
theorem u8_tabs {σ : ASt} {w : World} (hs : Sim σ w) (h : U8 σ) : Utf8Tabs 1 2 w := by
  refine ⟨fun c hc => fix_ints hs h.1 c _ (by simp [firstTab, hc]), fun i hi => ?_⟩
  have key : ∀ i, i < 16 → accTab[2 * i]? = some (accLo i : Int) ∧ accTab[2 * i + 1]? = some (accHi i : Int) := by decide
  exact ⟨fix_ints hs h.2 _ _ (key i hi).1, fix_ints hs h.2 _ _ (key i hi).2⟩
theorem ACalls.of_below {P : Program} {σ : ASt} {f : FuncId} {args : List AV} {r : AV} {u : Value} (h : ∀ w vs, Sim σ w → Reps σ w args vs → Calls P f ⟨vs⟩ w fun e w' => e = .returned u ∧ RowKit.Below w.heap.size w w') (hr : ∀ w, Rep σ w r u) : ACalls P f args σ fun v σ' => v = r ∧ σ' = σ :=
  ACalls.of_ext (fun w vs hs ha => (h w vs hs ha).mono fun e w' ⟨he, hb⟩ => ⟨he, Ext.of_below hb⟩) hr
theorem dec_ok {σ : ASt} (h : U8 σ) {l : List UInt8} (h0 : l ≠ []) : ACalls Tryz.prog 84 [.str l] σ fun v σ' => v = .tuple [.int .i32 (decodeL l).1, .int .i64 (decodeL l).2] ∧ σ' = σ := by
  refine ACalls.of_below (u := .tuple #[.int .i32 (decodeL l).1, .int .i64 (decodeL l).2]) (fun w vs hs ha => ?_) fun w => .tuple (.cons (.int _ _) (.cons (.int _ _) .nil))
  cases ha with
  | cons h1 h2 =>
  cases h1; cases h2
  have := Tryz.utf8_DecodeRuneInString ⟨⟨l⟩⟩ w (u8_tabs hs h)
  have e : decodeGo ⟨⟨l⟩⟩ = decodeL l := by
    unfold decodeGo decodeL
    rw [if_neg (by cases l; exact absurd rfl h0; simp [ByteArray.size])]
  rw [e] at this
  exact this
theorem count_ok (l : List UInt8) (hl : l.length < 9223372036854775807) : Pure Tryz.prog 67 [.str l] (.int .i64 (signsN l)) := by
  intro σ
  refine ACalls.of_ext (u := .int .i64 (signsN l)) (fun w vs hs ha => ?_) fun w => .int _ _
  cases ha with
  | cons h1 h2 =>
  cases h1; cases h2
  refine (Tryz.utf8_RuneCountInString ⟨⟨l⟩⟩ w (by simpa [ByteArray.size] using hl)).mono ?_
  rintro e w' ⟨rfl, pos, rfl⟩
  exact ⟨rfl, Ext.alloc (Ext.refl w) _⟩
theorem runeLen_ok (r : Int) : Pure Tryz.prog 90 [.int .i32 r] (.int .i64 (runeLen r)) := by
  intro σ
  refine ACalls.of_ext (u := .int .i64 (runeLen r)) (fun w vs hs ha => ?_) fun w => .int _ _
  cases ha with
  | cons h1 h2 =>
  cases h1; cases h2
  exact (Tryz.utf8_RuneLen r w).mono fun e w' ⟨he, hw⟩ => ⟨he, Ext.of_eq hw⟩
theorem prefix_ok (s p : List UInt8) (hs : s.length ≤ 1000000000) (hp : p.length ≤ 1000000000) : Pure Tryz.prog 93 [.str s, .str p] (.bool (p.isPrefixOf s)) := by
  intro σ
  refine ACalls.of_ext (u := .bool (p.isPrefixOf s)) (fun w vs hs ha => ?_) fun w => .bool _
  cases ha with
  | cons h1 h2 =>
  cases h2 with
  | cons h2 h3 =>
  cases h1; cases h2; cases h3
  refine (Tryz.strings_HasPrefix ⟨⟨s⟩⟩ ⟨⟨p⟩⟩ w).mono fun e w' ⟨he, hw⟩ => ⟨?_, Ext.of_eq hw⟩
  rw [he]
  rfl
theorem contains_ok (s : List UInt8) (c : UInt8) : Pure Tryz.prog 94 [.str s, .str [c]] (.bool (decide (0 ≤ indexByte s c))) := by
  intro σ
  refine ACalls.of_ext (u := .bool (decide (0 ≤ indexByte s c))) (fun w vs hs ha => ?_) fun w => .bool _
  cases ha with
  | cons h1 h2 =>
  cases h2 with
  | cons h2 h3 =>
  cases h1; cases h2; cases h3
  exact (Tryz.strings_Contains_one ⟨⟨s⟩⟩ c w).mono fun e w' ⟨he, hw⟩ => ⟨he, Ext.of_eq hw⟩
theorem index_ok (s : List UInt8) (c : UInt8) : Pure Tryz.prog 128 [.str s, .str [c]] (.int .i64 (indexByte s c)) := by
  intro σ
  refine ACalls.of_ext (u := .int .i64 (indexByte s c)) (fun w vs hs ha => ?_) fun w => .int _ _
  cases ha with
  | cons h1 h2 =>
  cases h2 with
  | cons h2 h3 =>
  cases h1; cases h2; cases h3
  exact (Tryz.stringslite_Index_one ⟨⟨s⟩⟩ c w).mono fun e w' ⟨he, hw⟩ => ⟨he, Ext.of_eq hw⟩
end Go.A
namespace Go.A
open Go.Proofs Go.Shelf Go.RowKit
set_option linter.unusedSimpArgs false
set_option linter.unusedVariables false
section
variable {P : Program} {ρ : Ren}
set_option maxHeartbeats 2000000 in
set_option maxRecDepth 100000 in
theorem bstr_used (L : Lays.n169 P ρ) (X : Builder.Extra P ρ) (b g cap size : Nat) (l : List UInt8) (w : World) (h0 : l ≠ []) (hc1 : w.cell? ⟨b, 1, none⟩ = some (.slice (some ⟨g, 0, none⟩) l.length cap)) (hcap : cap ≠ 0)
    (hsh : w.shape? g = some (ρ.t 5, size)) (hle : l.length ≤ size) (h63 : l.length ≤ 9223372036854775807) (hcell : ∀ j x, l[j]? = some x → w.cell? ⟨g, j, none⟩ = some (.int .u8 x.toNat)) :
    Calls P (ρ.f 169) #[.pointer (some ⟨b, 0, none⟩)] w fun e w' => e = .returned (.string ⟨l.toArray⟩) ∧ w' = w.drew.freeze ⟨g, 0, none⟩ l.length := by
  have c1 : w.drew.cell? ⟨b, 1, none⟩ = some (.slice (some ⟨g, 0, none⟩) l.length cap) := hc1
  have hSD : (Builtin.unsafeSliceData_ #[(ρ.t 37)] (ρ.t 127) #[.slice (some ⟨g, 0, none⟩) l.length cap]).run P w.drew = .ok (.pointer (some ⟨g, 0, none⟩)) w.drew :=
    Lib.run_unsafeSliceData_row _ _ _ _ _ _ hcap
  have hUS : (Builtin.unsafeString_ #[(ρ.t 127), (ρ.t 3)] (ρ.t 9) #[.pointer (some ⟨g, 0, none⟩), .int .i64 l.length]).run P w.drew = .ok (.string ⟨l.toArray⟩) (w.drew.freeze ⟨g, 0, none⟩ l.length) := by
    refine Lib.run_unsafeString_row w.drew (ρ.t 127) (ρ.t 3) (ρ.t 9) (ρ.t 5) L.t127 X.cellsByte g size hsh l h0 hle h63 ?_
    intro j x hx
    rw [addr_add', Nat.zero_add]
    exact hcell j x hx
  have mixed := L.mixed
  have t72 := L.t72; have a72 := L.a72; have z72 := L.z72; have v72 := L.v72; have u72 := run_underlying L.t72
  have t70 := L.t70; have a70 := L.a70; have z70 := L.z70; have v70 := L.v70; have u70 := run_underlying L.t70
  have t37 := L.t37; have a37 := L.a37; have z37 := L.z37; have v37 := L.v37; have u37 := run_underlying L.t37
  have t127 := L.t127; have a127 := L.a127; have z127 := L.z127; have v127 := L.v127; have u127 := run_underlying L.t127
  have t3 := L.t3; have a3 := L.a3; have z3 := L.z3; have v3 := L.v3; have u3 := run_underlying L.t3
  have t9 := L.t9; have a9 := L.a9; have z9 := L.z9; have v9 := L.v9; have u9 := run_underlying L.t9
  have t5 := X.t5; have a5 := X.a5; have z5 := X.z5; have v5 := X.v5; have u5 := run_underlying X.t5
  go_enter L.f169, Body.n169_ntmps ρ
  go_wp2
  go_region_o
  all_goals (go_wp2; go_ret; exact ⟨rfl, rfl⟩)
set_option maxHeartbeats 2000000 in
set_option maxRecDepth 100000 in
theorem bstr_nil (L : Lays.n169 P ρ) (X : Builder.Extra P ρ) (b : Nat) (w : World) (hc1 : w.cell? ⟨b, 1, none⟩ = some (.slice none 0 0)) :
    Calls P (ρ.f 169) #[.pointer (some ⟨b, 0, none⟩)] w fun e w' => e = .returned (.string ⟨#[]⟩) ∧ w' = w.drew := by
  have hUS := Any.unsafeString_none L X
  have c1 : w.drew.cell? ⟨b, 1, none⟩ = some (.slice none 0 0) := hc1
  have hSD : (Builtin.unsafeSliceData_ #[(ρ.t 37)] (ρ.t 127) #[.slice none 0 0]).run P w.drew = .ok (.pointer none) w.drew := rfl
  have mixed := L.mixed
  have t72 := L.t72; have a72 := L.a72; have z72 := L.z72; have v72 := L.v72; have u72 := run_underlying L.t72
  have t70 := L.t70; have a70 := L.a70; have z70 := L.z70; have v70 := L.v70; have u70 := run_underlying L.t70
  have t37 := L.t37; have a37 := L.a37; have z37 := L.z37; have v37 := L.v37; have u37 := run_underlying L.t37
  have t127 := L.t127; have a127 := L.a127; have z127 := L.z127; have v127 := L.v127; have u127 := run_underlying L.t127
  have t3 := L.t3; have a3 := L.a3; have z3 := L.z3; have v3 := L.v3; have u3 := run_underlying L.t3
  have t9 := L.t9; have a9 := L.a9; have z9 := L.z9; have v9 := L.v9; have u9 := run_underlying L.t9
  have t5 := X.t5; have a5 := X.a5; have z5 := X.z5; have v5 := X.v5; have u5 := run_underlying X.t5
  go_enter L.f169, Body.n169_ntmps ρ
  go_wp2
  go_region_o
  all_goals (go_wp2; go_ret; exact ⟨rfl, rfl⟩)
end
theorem size_bld : (Tryz.prog.info? 106).map (·.size) = some 2 := by kernel_rfl
theorem lies_bld : liesAt Tryz.prog Tryz.prog.depth 106 (2 / Tryz.prog.cellsOf 106) 0 106 1 = true := by kernel_rfl
set_option maxHeartbeats 1000000 in
set_option maxRecDepth 1000000 in
theorem cc_used (b : Nat) (w : World) (h0 : w.cell? ⟨b, 0, none⟩ = some (.pointer (some ⟨b, 0, none⟩))) :
    Calls Tryz.prog 97 #[.pointer (some ⟨b, 0, none⟩)] w fun e w' => e = .returned (.tuple #[]) ∧ w' = w := by
  obtain ⟨j, hj, _⟩ := Option.map_eq_some_iff.1 size_bld
  go_enter Tryz.func97, Tryz.ntmps97
  go_wp2
  rw [Lib.run_neq_ptr_same w _ Tryz.underlying103 hj]
  go_wp2
  go_end0
  exact ⟨rfl, rfl⟩
set_option maxHeartbeats 1000000 in
set_option maxRecDepth 1000000 in
theorem cc_fresh (b : Nat) (w : World) (h0 : w.cell? ⟨b, 0, none⟩ = some (.pointer none)) (hsh : w.shape? b = some (106, 2)) (hfz : w.frozen? ⟨b, 0, none⟩ = false) :
    Calls Tryz.prog 97 #[.pointer (some ⟨b, 0, none⟩)] w fun e w' => e = .returned (.tuple #[]) ∧ w' = w.setCell ⟨b, 0, none⟩ (.pointer (some ⟨b, 0, none⟩)) := by
  obtain ⟨j, hj, hjs⟩ := Option.map_eq_some_iff.1 size_bld
  go_enter Tryz.func97, Tryz.ntmps97
  go_wp2
  rw [Lib.run_to_unsafe w ⟨b, 0, none⟩ Tryz.underlying103 Tryz.underlying155 hj (by rw [hjs]; decide) hsh (Nat.zero_lt_succ 1)]
  simp only [Result.andThen]
  rw [Oper.upon_value]
  go_wp2
  rw [run_callFunc_extern Tryz.func117 (by kernel_rfl) (by kernel_rfl) (by kernel_rfl) (e := Extern.AbiNoEscape.same) (by kernel_rfl)]
  rw [Lib.run_noEscape]
  simp only [Result.andThen]
  rw [Oper.upon_value]
  go_wp2
  rw [Lib.run_from_unsafe w ⟨b, 0, none⟩ Tryz.underlying155 Tryz.underlying103 hj hsh lies_bld]
  simp only [Result.andThen]
  rw [Oper.upon_value]
  go_wp2
  go_end0
  exact ⟨rfl, rfl⟩
end Go.A
namespace Go.A
open Go.Proofs
set_option maxRecDepth 100000
set_option linter.unusedSimpArgs false
set_option linter.unusedVariables false
theorem copyCheck_typ {σ : ASt} {b : Nat} (h : σ b = some (.typ 106 [.pointer none, .slice none 0 0])) :
    ACalls Tryz.prog 97 [.ptr b 0] σ fun v σ' => v = .tuple [] ∧ σ' = σ.set b (some (.obj [.ptr b 0, .sl .full []])) := by
  intro w vs hs ha
  cases ha with
  | cons h1 h2 =>
  cases h1; cases h2
  have hb : w.heap[b]? = some (.cells ⟨[.pointer none, .slice none 0 0]⟩ 106 (0, 0)) := hs b _ h
  refine (cc_fresh b w (by simp [World.cell?, hb]) (by simp [World.shape?, hb]) (by simp [World.frozen?, hb])).mono ?_
  rintro e w' ⟨rfl, rfl⟩
  have hw := Wrote.setCell (o := 0) hb (.pointer (some ⟨b, 0, none⟩))
  have hle : Le σ w (σ.set b (some (.obj [.ptr b 0, .sl .full []]))) (w.setCell ⟨b, 0, none⟩ (.pointer (some ⟨b, 0, none⟩))) := by
    refine ⟨hw.os, hw.tape, hw.output, by rw [hw.size]; exact Nat.le_refl _, fun x hx hn => ?_, fun x cs hx hn => ?_, fun x f hx hn => ?_⟩
    all_goals have hne : x ≠ b := by rintro rfl; rw [h] at hn; cases hn
    · rw [ASt.set_ne hne]; exact ⟨hn, hw.other x hne⟩
    · rw [ASt.set_ne hne]; exact ⟨.inr hn, hw.other x hne⟩
    · rw [ASt.set_ne hne]; exact ⟨.inr ⟨f, Nat.le_refl _, hn⟩, shape_of_heap_eq (hw.other x hne), fun o _ => cell_of_heap_eq (hw.other x hne) o⟩
  have hro : RoleOk (σ.set b (some (.obj [.ptr b 0, .sl .full []]))) (w.setCell ⟨b, 0, none⟩ (.pointer (some ⟨b, 0, none⟩))) b (.obj [.ptr b 0, .sl .full []]) := by
    refine ⟨_, _, _, hw.new, ?_, fun o ho => ?_⟩
    · exact .cons (.ptr _ _) (.cons .slN .nil)
    · rw [hw.frozen]
      simp only [World.frozen?, hb]
      simp
  exact ⟨_, _, _, rfl, ⟨rfl, rfl⟩, hle, hw.sim hs hle hro, .tuple .nil⟩
theorem copyCheck_used {σ : ASt} {b : Nat} {x : AV} (h : σ b = some (.obj [.ptr b 0, x])) : ACalls Tryz.prog 97 [.ptr b 0] σ fun v σ' => v = .tuple [] ∧ σ' = σ := by
  intro w vs hs ha
  cases ha with
  | cons h1 h2 =>
  cases h1; cases h2
  obtain ⟨us, h3, h4, _⟩ := hs.objCell h
  cases h3 with
  | cons h5 h6 =>
  cases h5
  refine (cc_used b w (h4 0 _ rfl)).mono ?_
  rintro e w' ⟨rfl, rfl⟩
  exact ⟨_, _, _, rfl, ⟨rfl, rfl⟩, Le.refl _ _, hs, .tuple .nil⟩
theorem bstring_typ {σ : ASt} {b : Nat} (h : σ b = some (.typ 106 [.pointer none, .slice none 0 0])) : ACalls Tryz.prog 53 [.ptr b 0] σ fun v σ' => v = .str [] ∧ σ' = σ := by
  intro w vs hs ha
  cases ha with
  | cons h1 h2 =>
  cases h1; cases h2
  have hb : w.heap[b]? = some (.cells ⟨[.pointer none, .slice none 0 0]⟩ 106 (0, 0)) := hs b _ h
  refine (bstr_nil Tryz.lays169 Tryz.Builder_Extra_169 b w (by simp [World.cell?, hb])).mono ?_
  rintro e w' ⟨rfl, rfl⟩
  have hx : Ext w w.drew := Ext.drew (Ext.refl w)
  exact ⟨_, _, _, rfl, ⟨rfl, rfl⟩, ext_le hx, hs.ext hx, .str []⟩
theorem row_bytes {σ : ASt} {w : World} {b : Nat} : ∀ {l : List UInt8} {o : Nat}, Row σ w b o 1 (bytesAV l) → ∀ j x, l[j]? = some x → w.cell? ⟨b, o + j, none⟩ = some (.int .u8 x.toNat)
  | [], o, h, j, x, hj => by simp at hj
  | c :: l, o, h, j, x, hj => by
    cases h with
    | cons h1 h2 h3 =>
    cases j with
    | zero =>
      simp only [List.getElem?_cons_zero, Option.some.injEq] at hj
      subst hj
      cases h2 with
      | cons g1 g2 g3 g4 =>
      cases g3
      exact g2
    | succ j =>
      have := row_bytes (l := l) h3 j x (by simpa using hj)
      rw [show o + (j + 1) = o + 1 + j by omega]
      exact this
theorem bstring_used {σ : ASt} {b g : Nat} {p : AV} {l : List UInt8} (h0 : l ≠ []) (hl : l.length ≤ 9223372036854775807) (h : σ b = some (.obj [p, .sl (.tok g 1 5) (bytesAV l)])) (hg : σ g = some (.tok l.length)) :
    ACalls Tryz.prog 53 [.ptr b 0] σ fun v σ' => v = .str l ∧ σ' = σ := by
  intro w vs hs ha
  cases ha with
  | cons h1 h2 =>
  cases h1; cases h2
  obtain ⟨us, h3, h4, h9⟩ := hs.objCell h
  cases h3 with
  | cons h5 h6 =>
  cases h6 with
  | cons h7 h8 =>
  cases h8
  obtain ⟨c, T, fr, k1, k2, k3⟩ := hs g _ hg
  have hlen : (bytesAV l).length = l.length := by simp [bytesAV]
  generalize hbl : bytesAV l = bl at h7
  cases h7 with
  | sl r1 r2 r3 r4 r5 =>
  subst hbl
  obtain ⟨rfl, rfl, rfl, r6, r7⟩ := r4
  have hpos : 0 < l.length := List.length_pos_iff.2 h0
  subst r2
  rw [hlen] at r3
  have hc1 := h4 1 _ rfl
  rw [hlen] at hc1
  refine (bstr_used Tryz.lays169 Tryz.Builder_Extra_169 b g _ _ l w h0 hc1 (by omega) r6 (by omega) hl ?_).mono ?_
  · intro j x hj
    have := row_bytes r1 j x hj
    simpa using this
  rintro e w' ⟨rfl, rfl⟩
  have hother : ∀ x, x ≠ g → (w.drew.freeze ⟨g, 0, none⟩ l.length).heap[x]? = w.heap[x]? := by
    intro x hx
    simp only [World.freeze]
    rw [if_neg (by omega)]
    simp only [Array.getElem?_modify]
    rw [if_neg (Ne.symm hx)]
    rfl
  obtain ⟨lo, hi⟩ := fr
  have hk1 : w.drew.heap[g]? = some (.cells c T (lo, hi)) := k1
  obtain ⟨fr', hfr, hnew⟩ : ∃ fr' : Nat × Nat, fr'.2 ≤ l.length ∧ (w.drew.freeze ⟨g, 0, none⟩ l.length).heap[g]? = some (.cells c T fr') := by
    refine ⟨if lo == hi then (0, 0 + l.length) else (min lo 0, max hi (0 + l.length)), ?_, ?_⟩
    · dsimp only at k3
      split <;> dsimp only <;> omega
    · simp only [World.freeze]
      rw [if_neg (by omega)]
      simp only [Array.getElem?_modify, if_true, hk1, Option.map_some]
  have hshape : (w.drew.freeze ⟨g, 0, none⟩ l.length).shape? g = w.shape? g := by simp only [World.shape?, hnew, k1]
  have hcells : ∀ o, (w.drew.freeze ⟨g, 0, none⟩ l.length).cell? ⟨g, o, none⟩ = w.cell? ⟨g, o, none⟩ := fun o => by simp only [World.cell?, hnew, k1]
  have hle : Le σ w σ (w.drew.freeze ⟨g, 0, none⟩ l.length) := by
    refine ⟨?_, ?_, ?_, ?_, fun x hx hn => ?_, fun x cs hx hn => ?_, fun x f hx hn => ?_⟩
    · simp only [World.freeze]; split <;> rfl
    · simp only [World.freeze]; split <;> rfl
    · simp only [World.freeze]; split <;> rfl
    · simp only [World.freeze]; split
      · exact Nat.le_refl _
      · rw [Array.size_modify]; exact Nat.le_refl _
    · have hne : x ≠ g := by rintro rfl; rw [hg] at hn; cases hn
      exact ⟨hn, hother x hne⟩
    · have hne : x ≠ g := by rintro rfl; rw [hg] at hn; cases hn
      exact ⟨.inr hn, hother x hne⟩
    · by_cases hne : x = g
      · subst hne
        exact ⟨.inr ⟨f, Nat.le_refl _, hn⟩, hshape, fun o _ => hcells o⟩
      · exact ⟨.inr ⟨f, Nat.le_refl _, hn⟩, shape_of_heap_eq (hother x hne), fun o _ => cell_of_heap_eq (hother x hne) o⟩
  have hsim : Sim σ (w.drew.freeze ⟨g, 0, none⟩ l.length) := by
    intro x q hx
    by_cases hne : x = g
    · subst hne
      rw [hg] at hx
      injection hx with hx
      subst hx
      exact ⟨c, T, fr', hnew, k2, hfr⟩
    · exact (hs x q hx).keep hle (hother x hne)
  exact ⟨_, _, _, rfl, ⟨rfl, rfl⟩, hle, hsim, .str l⟩
end Go.A
namespace Go.A
open Go.Proofs
/-! 74: tabular/token.Quote -/
def c74_0 : ACode := .ops [
 ⟨some 2, none, .q (.mv (.v (.str []))), []⟩]
def c74_1 : ACode := .ops [
 ⟨some 3, none, .q (.mv (.t 0)), []⟩,
 ⟨some 4, none, .e (.call 101 [(.t 3), (.v (.str [34])), (.v (.str [34, 34]))]), []⟩,
 ⟨some 5, none, .q (.bin .add (.v (.str [34])) (.t 4)), []⟩,
 ⟨some 6, none, .q (.bin .add (.t 5) (.v (.str [34]))), []⟩,
 ⟨some 2, none, .q (.mv (.t 6)), []⟩]
def c74_2 : ACode := .seq c74_1 .ret
def c74_3 : ACode := .seq c74_0 c74_2
@[go_sem] theorem c74_0_wp : type_of% (wp_of c74_0.eq_1) := wp_of c74_0.eq_1
@[go_sem] theorem c74_1_wp : type_of% (wp_of c74_1.eq_1) := wp_of c74_1.eq_1
@[go_sem] theorem c74_2_wp : type_of% (wp_of c74_2.eq_1) := wp_of c74_2.eq_1
@[go_sem] theorem c74_3_wp : type_of% (wp_of c74_3.eq_1) := wp_of c74_3.eq_1
def c74 : AFn := ⟨7, [.t 2], c74_3⟩
set_option maxRecDepth 100000 in
theorem c74_ok : compF Tryz.prog Tryz.f74 = some c74 := by kernel_rfl
theorem a74 {args : List AV} {σ : ASt} {R : AV → ASt → Prop} (hl : args.length ≤ 7) (h : c74_3.wp Tryz.prog (RetQ [.t 2] R) (init args) σ) : ACalls Tryz.prog 74 args σ R := acalls_of Tryz.func74 c74_ok hl h
end Go.A
namespace Go.A
open Go.Proofs Go.Lib
set_option maxRecDepth 100000
set_option linter.unusedSimpArgs false
set_option linter.unusedVariables false
def dbl (s : List UInt8) : List UInt8 := s.flatMap fun c => if c = 34 then [34, 34] else [c]
theorem dbl_q (s : List UInt8) : dbl (34 :: s) = 34 :: 34 :: dbl s := by simp [dbl]
theorem dbl_o {c : UInt8} (h : c ≠ 34) (s : List UInt8) : dbl (c :: s) = c :: dbl s := by simp [dbl, h]
theorem rep_ne {c : UInt8} (hc : c ≠ 34) (new : List UInt8) : ∀ (k : Nat) (s : List UInt8), replaceK [34] new k (c :: s) = c :: replaceK [34] new k s
  | 0, s => rfl
  | k + 1, s => by
    have hp : ([34] : List UInt8).isPrefixOf (c :: s) = false := by
      simp [List.isPrefixOf]
      exact fun h => hc h.symm
    have hi : index (c :: s) [34] = if index s [34] == -1 then -1 else index s [34] + 1 := by
      rw [index, hp]
      simp
    unfold replaceK
    rw [hi]
    have hge := index_ge s [34]
    by_cases h : index s [34] = -1
    · have hb : (index s [34] == -1) = true := by rw [h]; rfl
      rw [if_pos hb, if_pos (by rfl), if_pos hb]
    · have hb : ¬ (index s [34] == -1) = true := by rw [beq_iff_eq]; exact h
      rw [if_neg hb, if_neg (by rw [beq_iff_eq]; omega), if_neg hb]
      have e : (index s [34] + 1).toNat = (index s [34]).toNat + 1 := by omega
      rw [e, List.take_succ_cons]
      simp only [List.length_cons, List.length_nil, List.cons_append]
      rw [show (index s [34]).toNat + 1 + (0 + 1) = ((index s [34]).toNat + (0 + 1)) + 1 by omega, List.drop_succ_cons]
theorem rep_eq (new : List UInt8) (k : Nat) (s : List UInt8) : replaceK [34] new (k + 1) (34 :: s) = new ++ replaceK [34] new k s := by
  have hi : index (34 :: s) [34] = 0 := by
    rw [index]
    simp [List.isPrefixOf]
  rw [replaceK, hi]
  simp
theorem rep_dbl : ∀ s : List UInt8, replaceK [34] [34, 34] (s.count 34) s = dbl s
  | [] => rfl
  | c :: s => by
    by_cases hc : c = 34
    · subst hc
      rw [List.count_cons_self, rep_eq, rep_dbl s, dbl_q]
      rfl
    · rw [List.count_cons_of_ne (by simpa using hc), rep_ne hc, rep_dbl s, dbl_o hc]
theorem replace_dbl (s : List UInt8) : replaceAll s [34] [34, 34] = dbl s := by
  unfold replaceAll replace replaceNum
  rw [if_neg (by decide), if_pos (.inl (by omega)), count_one, rep_dbl]
theorem dbl_len (s : List UInt8) : (dbl s).length ≤ 2 * s.length := by
  induction s with
  | nil => simp [dbl]
  | cons c s ih =>
    by_cases hc : c = 34
    · subst hc; rw [dbl_q]; simp; omega
    · rw [dbl_o hc]; simp; omega
def MaxL (σ : ASt) : Prop := ∃ m : Int, σ 3 = some (.fix ([m].map (AV.int .i64)))
theorem replace_ok {σ : ASt} (hM : MaxL σ) (s : List UInt8) (hs : s.length ≤ 100000) : ACalls Tryz.prog 101 [.str s, .str [34], .str [34, 34]] σ fun v σ' => v = .str (dbl s) ∧ σ' = σ := by
  obtain ⟨m, hm⟩ := hM
  refine ACalls.of_below (u := .string ⟨⟨dbl s⟩⟩) (fun w vs hsim ha => ?_) fun w => .str _
  cases ha with
  | cons h1 h2 =>
  cases h2 with
  | cons h2 h3 =>
  cases h3 with
  | cons h3 h4 =>
  cases h1; cases h2; cases h3; cases h4
  have hcell := fix_ints hsim hm 0 m rfl
  have e1 : (⟨⟨s⟩⟩ : ByteArray).size = s.length := rfl
  have e2 : (⟨⟨[34, 34]⟩⟩ : ByteArray).size = 2 := rfl
  have hcb : countB ⟨⟨s⟩⟩ ⟨⟨[34]⟩⟩ ≤ s.length := by
    show count s [34] ≤ s.length
    rw [count_one]
    exact List.count_le_length
  refine (Tryz.strings_ReplaceAll ⟨⟨s⟩⟩ ⟨⟨[34]⟩⟩ ⟨⟨[34, 34]⟩⟩ m w (by rw [e1]; omega) hcell (by decide) (by rw [e1, e2]; omega)).mono ?_
  rintro e w' ⟨rfl, hb⟩
  refine ⟨?_, hb⟩
  show _ = Ending.returned (.string ⟨⟨dbl s⟩⟩)
  rw [← replace_dbl]
theorem tquote_ok {σ : ASt} (hM : MaxL σ) (s : List UInt8) (hs : s.length ≤ 100000) : ACalls Tryz.prog 74 [.str s] σ fun v σ' => v = .str (34 :: dbl s ++ [34]) ∧ σ' = σ := by
  have hl := dbl_len s
  refine a74 (by simp) ?_
  simp (disch := first | assumption | omega | (simp only [List.length_append, List.length_cons, List.length_nil]; omega)) only [go_sem, reduceCtorEq, ↓reduceIte]
  refine (replace_ok hM s hs).mono ?_
  rintro v σ' ⟨rfl, rfl⟩
  have e1 : binS .add [34] (dbl s) = some (.str (34 :: dbl s)) := binS_add (by simp; omega)
  have e2 : binS .add (34 :: dbl s) [34] = some (.str (34 :: dbl s ++ [34])) := binS_add (by simp; omega)
  simp (disch := first | assumption | omega | (simp only [List.length_append, List.length_cons, List.length_nil]; omega)) only [go_sem, ↓reduceIte, e1, e2]
  exact retC_by (Drop.refl _) (.refl _) ⟨rfl, rfl⟩
end Go.A
namespace Go.A
open Go.Proofs
/-! 77: (tabular/addr.Ref).Text -/
def c77_0 : ACode := .ops [
 ⟨some 1, none, .e (.box (.t 0)), []⟩,
 ⟨some 2, none, .q (.mv (.v (.str []))), []⟩]
def c77_1 : ACode := .ops [
 ⟨some 3, none, .q (.fa 3 (.t 1)), []⟩,
 ⟨some 4, none, .q (.ld none (.t 3)), []⟩,
 ⟨some 6, none, .q (.fa 1 (.t 1)), []⟩,
 ⟨some 7, none, .q (.ld none (.t 6)), []⟩,
 ⟨some 10, none, .q (.fa 2 (.t 1)), []⟩,
 ⟨some 11, none, .q (.ld none (.t 10)), []⟩,
 ⟨some 14, none, .q (.fa 0 (.t 1)), []⟩,
 ⟨some 15, none, .q (.ld none (.t 14)), []⟩,
 ⟨some 16, none, .q (.bin .add (.t 15) (.v (.int .i64 1))), []⟩,
 ⟨some 5, none, .e (.call 103 [(.t 4)]), [⟨none, .ld none (.t 6), 7⟩, ⟨none, .ld none (.t 10), 11⟩, ⟨none, .ld none (.t 14), 15⟩]⟩,
 ⟨some 8, none, .e (.call 104 [(.t 7)]), [⟨none, .ld none (.t 10), 11⟩, ⟨none, .ld none (.t 14), 15⟩]⟩,
 ⟨some 9, none, .q (.bin .add (.t 5) (.t 8)), []⟩,
 ⟨some 12, none, .e (.call 103 [(.t 11)]), [⟨none, .ld none (.t 14), 15⟩]⟩,
 ⟨some 13, none, .q (.bin .add (.t 9) (.t 12)), []⟩,
 ⟨some 17, none, .e (.call 105 [(.t 16)]), []⟩,
 ⟨some 18, none, .q (.bin .add (.t 13) (.t 17)), []⟩,
 ⟨some 2, none, .q (.mv (.t 18)), []⟩]
def c77_2 : ACode := .seq c77_1 .ret
def c77_3 : ACode := .seq c77_0 c77_2
@[go_sem] theorem c77_0_wp : type_of% (wp_of c77_0.eq_1) := wp_of c77_0.eq_1
@[go_sem] theorem c77_1_wp : type_of% (wp_of c77_1.eq_1) := wp_of c77_1.eq_1
@[go_sem] theorem c77_2_wp : type_of% (wp_of c77_2.eq_1) := wp_of c77_2.eq_1
@[go_sem] theorem c77_3_wp : type_of% (wp_of c77_3.eq_1) := wp_of c77_3.eq_1
def c77 : AFn := ⟨19, [.t 2], c77_3⟩
set_option maxRecDepth 100000 in
theorem c77_ok : compF Tryz.prog Tryz.f77 = some c77 := by kernel_rfl
theorem a77 {args : List AV} {σ : ASt} {R : AV → ASt → Prop} (hl : args.length ≤ 19) (h : c77_3.wp Tryz.prog (RetQ [.t 2] R) (init args) σ) : ACalls Tryz.prog 77 args σ R := acalls_of Tryz.func77 c77_ok hl h
/-! 78: (tabular/addr.Area).Text -/
def c78_0 : ACode := .ops [
 ⟨some 1, none, .e (.box (.t 0)), []⟩,
 ⟨some 2, none, .q (.mv (.v (.str []))), []⟩]
def c78_1 : ACode := .ops [
 ⟨some 3, none, .q (.fa 0 (.t 1)), []⟩,
 ⟨some 4, none, .q (.ld (some 4) (.t 3)), []⟩,
 ⟨some 7, none, .q (.fa 4 (.t 1)), []⟩,
 ⟨some 8, none, .q (.ld (some 4) (.t 7)), []⟩,
 ⟨some 5, none, .e (.call 77 [(.t 4)]), [⟨none, .ld (some 4) (.t 7), 8⟩]⟩,
 ⟨some 6, none, .q (.bin .add (.t 5) (.v (.str [58]))), []⟩,
 ⟨some 9, none, .e (.call 77 [(.t 8)]), []⟩,
 ⟨some 10, none, .q (.bin .add (.t 6) (.t 9)), []⟩,
 ⟨some 2, none, .q (.mv (.t 10)), []⟩]
def c78_2 : ACode := .seq c78_1 .ret
def c78_3 : ACode := .seq c78_0 c78_2
@[go_sem] theorem c78_0_wp : type_of% (wp_of c78_0.eq_1) := wp_of c78_0.eq_1
@[go_sem] theorem c78_1_wp : type_of% (wp_of c78_1.eq_1) := wp_of c78_1.eq_1
@[go_sem] theorem c78_2_wp : type_of% (wp_of c78_2.eq_1) := wp_of c78_2.eq_1
@[go_sem] theorem c78_3_wp : type_of% (wp_of c78_3.eq_1) := wp_of c78_3.eq_1
def c78 : AFn := ⟨11, [.t 2], c78_3⟩
set_option maxRecDepth 100000 in
theorem c78_ok : compF Tryz.prog Tryz.f78 = some c78 := by kernel_rfl
theorem a78 {args : List AV} {σ : ASt} {R : AV → ASt → Prop} (hl : args.length ≤ 11) (h : c78_3.wp Tryz.prog (RetQ [.t 2] R) (init args) σ) : ACalls Tryz.prog 78 args σ R := acalls_of Tryz.func78 c78_ok hl h
/-! 103: tabular/addr.dollar -/
def c103_0 : ACode := .ops [
 ⟨some 2, none, .q (.mv (.v (.str []))), []⟩]
def c103_1 : ACode := .ops [
 ⟨some 3, none, .q (.mv (.t 0)), []⟩]
def c103_2 : ACode := .ops [
 ⟨some 2, none, .q (.mv (.v (.str [36]))), []⟩]
def c103_3 : ACode := .seq c103_2 .ret
def c103_4 : ACode := .cond (.t 3) c103_3 .skip
def c103_5 : ACode := .seq c103_1 c103_4
def c103_6 : ACode := .ops [
 ⟨some 2, none, .q (.mv (.v (.str []))), []⟩]
def c103_7 : ACode := .seq c103_6 .ret
def c103_8 : ACode := .seq c103_5 c103_7
def c103_9 : ACode := .seq c103_0 c103_8
@[go_sem] theorem c103_0_wp : type_of% (wp_of c103_0.eq_1) := wp_of c103_0.eq_1
@[go_sem] theorem c103_1_wp : type_of% (wp_of c103_1.eq_1) := wp_of c103_1.eq_1
@[go_sem] theorem c103_2_wp : type_of% (wp_of c103_2.eq_1) := wp_of c103_2.eq_1
@[go_sem] theorem c103_3_wp : type_of% (wp_of c103_3.eq_1) := wp_of c103_3.eq_1
@[go_sem] theorem c103_4_wp : type_of% (wp_of c103_4.eq_1) := wp_of c103_4.eq_1
@[go_sem] theorem c103_5_wp : type_of% (wp_of c103_5.eq_1) := wp_of c103_5.eq_1
@[go_sem] theorem c103_6_wp : type_of% (wp_of c103_6.eq_1) := wp_of c103_6.eq_1
@[go_sem] theorem c103_7_wp : type_of% (wp_of c103_7.eq_1) := wp_of c103_7.eq_1
@[go_sem] theorem c103_8_wp : type_of% (wp_of c103_8.eq_1) := wp_of c103_8.eq_1
@[go_sem] theorem c103_9_wp : type_of% (wp_of c103_9.eq_1) := wp_of c103_9.eq_1
def c103 : AFn := ⟨4, [.t 2], c103_9⟩
set_option maxRecDepth 100000 in
theorem c103_ok : compF Tryz.prog Tryz.f103 = some c103 := by kernel_rfl
theorem a103 {args : List AV} {σ : ASt} {R : AV → ASt → Prop} (hl : args.length ≤ 4) (h : c103_9.wp Tryz.prog (RetQ [.t 2] R) (init args) σ) : ACalls Tryz.prog 103 args σ R := acalls_of Tryz.func103 c103_ok hl h
end Go.A
namespace Go.A
open Go.Proofs
set_option maxRecDepth 100000
set_option linter.unusedSimpArgs false
set_option linter.unusedVariables false
theorem dollar_ok (b : Bool) : Pure Tryz.prog 103 [.bool b] (.str (dolP b)) := by
  intro σ
  refine a103 (by simp) ?_
  cases b
  · simp (disch := first | assumption | omega | (simp only [List.length_append, List.length_cons, List.length_nil]; omega)) only [go_sem, reduceCtorEq, ↓reduceIte]
    exact retC_by (Drop.refl _) (.refl _) ⟨rfl, rfl⟩
  · simp (disch := first | assumption | omega | (simp only [List.length_append, List.length_cons, List.length_nil]; omega)) only [go_sem, reduceCtorEq, ↓reduceIte]
    exact retC_by (Drop.refl _) (.refl _) ⟨rfl, rfl⟩
theorem text_ok {σ : ASt} (ht : Tab σ) {r : Ref} (hg : r.good = true) : ACalls Tryz.prog 77 [refAV r] σ fun v σ' => v = .str (textP r) ∧ σ' = σ := by
  have hg' := hg
  simp only [Ref.good, decide_eq_true_eq] at hg'
  obtain ⟨g1, g2, g3, g4⟩ := hg'
  have hi := itoa_num g1 g2
  have hl := letters_len r.col
  have hn := (num_facts g1 g2).2.2.2.1
  have hd1 : (dolP r.absCol).length ≤ 1 := by unfold dolP; split <;> simp
  have hd2 : (dolP r.absRow).length ≤ 1 := by unfold dolP; split <;> simp
  obtain ⟨l, hlq⟩ : ∃ l, textP r = l := ⟨_, rfl⟩
  rw [hlq]
  unfold textP at hlq
  refine a77 (by simp) ?_
  simp (disch := first | assumption | omega | (simp only [List.length_append, List.length_cons, List.length_nil]; omega)) only [go_sem, refAV]
  refine boxC_by rfl fun b hb => ?_
  simp (disch := first | assumption | omega | (simp only [List.length_append, List.length_cons, List.length_nil]; omega)) only [go_sem, Nat.reduceEqDiff, ↓reduceIte]
  refine (dollar_ok _).use ?_
  simp (disch := first | assumption | omega | (simp only [List.length_append, List.length_cons, List.length_nil]; omega)) only [go_sem, Nat.reduceEqDiff, ↓reduceIte]
  refine (letters_ok _).use ?_
  simp (disch := first | assumption | omega | (simp only [List.length_append, List.length_cons, List.length_nil]; omega)) only [go_sem, Nat.reduceEqDiff, ↓reduceIte]
  refine (dollar_ok _).use ?_
  simp (disch := first | assumption | omega | (simp only [List.length_append, List.length_cons, List.length_nil]; omega)) only [go_sem, Nat.reduceEqDiff, ↓reduceIte]
  refine (itoa_ok (ht.set hb) (by omega) (by omega)).mono ?_
  rintro v σ' ⟨rfl, rfl⟩
  rw [hi]
  simp (disch := first | assumption | omega | (simp only [List.length_append, List.length_cons, List.length_nil]; omega)) only [go_sem, Nat.reduceEqDiff, ↓reduceIte, hlq]
  exact retC_by (by repeat' (first | exact Drop.refl _ | with_reducible refine Drop.off ?_ (by assumption))) (.refl _) ⟨rfl, rfl⟩
theorem atext_ok {σ : ASt} (ht : Tab σ) {a b : Ref} (ha : a.good = true) (hb : b.good = true) : ACalls Tryz.prog 78 [areaAV a b] σ fun v σ' => v = .str (textP a ++ [58] ++ textP b) ∧ σ' = σ := by
  have l1 := text_len ha
  have l2 := text_len hb
  refine a78 (by simp) ?_
  simp (disch := first | assumption | omega | (simp only [List.length_append, List.length_cons, List.length_nil]; omega)) only [go_sem, areaAV]
  refine boxC_by rfl fun b0 hb0 => ?_
  simp (disch := first | assumption | omega | (simp only [List.length_append, List.length_cons, List.length_nil]; omega)) only [go_sem, Nat.reduceEqDiff, Nat.reduceAdd, Nat.reduceLeDiff, ↓reduceIte]
  refine (text_ok (ht.set hb0) ha).mono ?_
  rintro v σ' ⟨rfl, rfl⟩
  have e1 : binS .add (textP a) [58] = some (.str (textP a ++ [58])) := binS_add (by simp only [List.length_cons, List.length_nil]; omega)
  have e2 : binS .add (textP a ++ [58]) (textP b) = some (.str (textP a ++ [58] ++ textP b)) := binS_add (by simp only [List.length_append, List.length_cons, List.length_nil]; omega)
  simp (disch := first | assumption | omega | (simp only [List.length_append, List.length_cons, List.length_nil]; omega)) only [go_sem, Nat.reduceEqDiff, Nat.reduceAdd, Nat.reduceLeDiff, ↓reduceIte, e1]
  refine (text_ok (ht.set hb0) hb).mono ?_
  rintro v σ' ⟨rfl, rfl⟩
  simp (disch := first | assumption | omega | (simp only [List.length_append, List.length_cons, List.length_nil]; omega)) only [go_sem, Nat.reduceEqDiff, ↓reduceIte, e2]
  exact retC_by (by repeat' (first | exact Drop.refl _ | with_reducible refine Drop.off ?_ (by assumption))) (.refl _) ⟨rfl, rfl⟩
end Go.A
namespace Go.A
open Go.Proofs Go.Shelf Go.RowKit Go.Sort
set_option linter.unusedSimpArgs false
set_option linter.unusedVariables false
set_option maxHeartbeats 4000000 in
set_option maxRecDepth 100000 in
theorem fmtU_small (u : Nat) (hu : u < 100) (w : World) : Calls Tryz.prog 118 #[.int .u64 u, .int .i64 10] w fun e w' => e = .returned (.string ⟨(Lib.decDigits u).toArray⟩) ∧ Ext w w' := by
  have iu : (u : Int) < 100 := by omega
  go_enter Tryz.func118, Tryz.ntmps118
  go_wp2_with (go_at_call 133; refine (Tryz.internal_strconv_small u hu _).mono ?_; rintro e w' ⟨rfl, rfl⟩)
  go_ret
  exact ⟨rfl, Ext.refl _⟩
set_option maxHeartbeats 12800000 in
set_option maxRecDepth 100000 in
theorem fmtU_big (u : Nat) (hu : 100 ≤ u) (hu64 : u < 18446744073709551616) (w : World) (htab : Lib.TabIs Tryz.prog w "internal/strconv.uint64pow10" .u64 Lib.pow10Tab) :
    Calls Tryz.prog 118 #[.int .u64 u, .int .i64 10] w fun e w' => e = .returned (.string ⟨(Lib.decDigits u).toArray⟩) ∧ Ext w w' := by
  have hu1 : 1 ≤ u := by omega
  have hnd20 : Lib.nDigits u ≤ 20 := by have := Lib.numDigits_eq u hu1 hu64; split at this <;> omega
  have hal : Tryz.prog.arrayLen 178 = 24 := by kernel_rfl
  have hsl : ∀ W, (Instr.sliceAt 178 (.pointer (some ⟨w.heap.size, 0, none⟩)) none (some (.int .i64 (Lib.nDigits u : Int))) none).run Tryz.prog W = .ok (.slice (some ⟨w.heap.size, 0, none⟩) (Lib.nDigits u) 24) W := fun W => by
    rw [run_sliceAt_array_h W 178 ⟨w.heap.size, 0, none⟩ (by kernel_rfl) .i64 (Lib.nDigits u : Int) (by omega) (by rw [hal]; omega)]
    rw [hal]
    rfl
  have hH0 := Lib.holds_zero0 w 178 (Lib.nDigits u) (by omega)
  have hfmt := Tryz.internal_strconv_formatBase10 w.heap.size 0 24 u (Array.replicate (Lib.nDigits u) 0) (w.alloc (.cells Lib.zeros24 178)) hH0 (by rw [Array.size_replicate]; exact Lib.lt_pow_nDigits u) hu64 (by rw [Array.size_replicate]; omega)
  rw [Array.size_replicate] at hfmt
  have HH0 := Lib.hid hH0
  have iu : (100 : Int) ≤ (u : Int) := by omega
  clear hH0 hal
  go_enter Tryz.func118, Tryz.ntmps118
  go_wp2_with (first
    | (go_at_call 134; refine (Tryz.internal_strconv_numDigits u hu1 hu64 _ (Lib.tabIs_alloc htab _)).mono ?_; rintro e w' ⟨rfl, rfl⟩))
  go_at_call 135
  refine hfmt.mono ?_
  rintro e w' ⟨rfl, k, v', dk, rfl, hF⟩
  have hcv : (convert 104 9 (.slice (some ⟨w.heap.size, 0, none⟩) (Lib.nDigits u) 24)).run Tryz.prog ((putRow (fun (b : UInt8) => Value.int .u8 (b.toNat : Int)) (w.alloc (.cells Lib.zeros24 178)) w.heap.size 0 dk).drewN k) = .ok (.string ⟨(Lib.decDigits u).toArray⟩) ((putRow (fun (b : UInt8) => Value.int .u8 (b.toNat : Int)) (w.alloc (.cells Lib.zeros24 178)) w.heap.size 0 dk).drewN k) := by
    have h := run_convert_bytes_back (P := Tryz.prog) ((putRow (fun (b : UInt8) => Value.int .u8 (b.toNat : Int)) (w.alloc (.cells Lib.zeros24 178)) w.heap.size 0 dk).drewN k) 104 9 5 ⟨w.heap.size, 0, none⟩ 24 (Lib.decDigits u) Tryz.underlying104 Tryz.underlying5 Tryz.underlying9 (fun j hj => by
      rw [Lib.row_is_numeral hF j hj, Lib.add_plain, World.cell?_drewN]
      exact cell?_putRow (fun (b : UInt8) => Value.int .u8 (b.toNat : Int)) _ w.heap.size 0 _ dk HH0.out (by rw [hF.size, Array.size_replicate]) j (by rw [hF.size]; rw [Lib.decDigits_length] at hj; exact hj))
    rw [Lib.decDigits_length] at h
    exact h
  go_wp2
  go_ret
  obtain ⟨os, eo⟩ := Lib.fin_at w (.cells Lib.zeros24 178) dk k 0
  refine ⟨rfl, ?_⟩
  rw [eo]
  exact ext_grow w k os
theorem ifmt_ok {σ : ASt} (h : Tab σ) {u : Nat} (hu : u < 18446744073709551616) : ACalls Tryz.prog 118 [.int .u64 u, .int .i64 10] σ fun v σ' => v = .str (Lib.decDigits u) ∧ σ' = σ := by
  refine ACalls.of_ext (u := .string ⟨(Lib.decDigits u).toArray⟩) (fun w vs hs ha => ?_) fun w => .str _
  cases ha with
  | cons h1 h2 =>
  cases h2 with
  | cons h2 h3 =>
  cases h1; cases h2; cases h3
  by_cases hs2 : u < 100
  · exact fmtU_small u hs2 w
  · exact fmtU_big u (by omega) hu w (tabIs_of hs (by kernel_rfl) h)
theorem fmt_ok {σ : ASt} (h : Tab σ) {u : Nat} (hu : u < 18446744073709551616) : ACalls Tryz.prog 99 [.int .u64 u, .int .i64 10] σ fun v σ' => v = .str (Lib.decDigits u) ∧ σ' = σ := by
  refine a99 (by simp) ?_
  simp (disch := first | assumption | omega | (simp only [List.length_append, List.length_cons, List.length_nil]; omega)) only [go_sem, reduceCtorEq, Nat.reduceEqDiff, ↓reduceIte]
  refine (ifmt_ok h hu).mono ?_
  rintro v σ' ⟨rfl, rfl⟩
  simp (disch := first | assumption | omega | (simp only [List.length_append, List.length_cons, List.length_nil]; omega)) only [go_sem, ↓reduceIte]
  exact retC_by (Drop.refl _) (.refl _) ⟨rfl, rfl⟩
theorem cutPrefix_ok (s p : List UInt8) : Pure Tryz.prog 129 [.str s, .str p] (.tuple [.str (Lib.trimPrefix s p), .bool (Lib.hasPrefix s p)]) := by
  intro σ
  refine ACalls.of_ext (u := .tuple #[.string ⟨(Lib.trimPrefix s p).toArray⟩, .bool (Lib.hasPrefix s p)]) (fun w vs hs ha => ?_) fun w => .tuple (.cons (.str _) (.cons (.bool _) .nil))
  cases ha with
  | cons h1 h2 =>
  cases h2 with
  | cons h2 h3 =>
  cases h1; cases h2; cases h3
  exact (Tryz.strings_CutPrefix ⟨⟨s⟩⟩ ⟨⟨p⟩⟩ w).mono fun e w' ⟨he, hw⟩ => ⟨he, Ext.of_eq hw⟩
theorem trimRight_ok (s : List UInt8) (c : UInt8) (hc : c.toNat < 128) (hsl : s.length ≤ 9223372036854775807) : Pure Tryz.prog 100 [.str s, .str [c]] (.str (Lib.trimRightB s c)) := by
  intro σ
  refine ACalls.of_ext (u := .string ⟨(Lib.trimRightB s c).toArray⟩) (fun w vs hs ha => ?_) fun w => .str _
  cases ha with
  | cons h1 h2 =>
  cases h2 with
  | cons h2 h3 =>
  cases h1; cases h2; cases h3
  exact (Tryz.strings_TrimRight_one ⟨⟨s⟩⟩ c hc w (by simpa [ByteArray.size] using hsl)).mono fun e w' ⟨he, hw⟩ => ⟨he, Ext.of_eq hw⟩
theorem sindex_ok (s : List UInt8) (c : UInt8) : Pure Tryz.prog 128 [.str s, .str [c]] (.int .i64 (Lib.indexByte s c)) := by
  intro σ
  refine ACalls.of_ext (u := .int .i64 (Lib.indexByte s c)) (fun w vs hs ha => ?_) fun w => .int _ _
  cases ha with
  | cons h1 h2 =>
  cases h2 with
  | cons h2 h3 =>
  cases h1; cases h2; cases h3
  exact (Tryz.stringslite_Index_one ⟨⟨s⟩⟩ c w).mono fun e w' ⟨he, hw⟩ => ⟨he, Ext.of_eq hw⟩
theorem cutc_ok (l : List UInt8) (c : UInt8) (hl : l.length ≤ 1000000000) : Pure Tryz.prog 107 [.str l, .str [c]] (.tuple [.str (Lib.cut l [c]).1, .str (Lib.cut l [c]).2.1, .bool (Lib.cut l [c]).2.2]) := by
  have h1 : Pure Tryz.prog 125 [.str l, .str [c]] (.tuple [.str (Lib.cut l [c]).1, .str (Lib.cut l [c]).2.1, .bool (Lib.cut l [c]).2.2]) := by
    intro σ
    have hi := sindex_ok l c
    have hr := Lib.index_room l [c]
    unfold Lib.cut
    rw [Lib.index_one] at hr ⊢
    have hg := Lib.indexByte_ge l c
    refine a125 (by simp) ?_
    by_cases h0 : 0 ≤ Lib.indexByte l c
    · obtain ⟨i, e⟩ : ∃ i : Nat, Lib.indexByte l c = i := ⟨(Lib.indexByte l c).toNat, by omega⟩
      rw [e] at hi hr ⊢
      have hr := hr (by omega)
      simp only [List.length_cons, List.length_nil] at hr
      rw [if_pos (by omega)]
      have e1 : (0 : Int) ≤ i := by omega
      have e2 : ((i : Int) + 1).toNat = i + 1 := by omega
      have e3 : (i : Int) ≤ l.length := by omega
      have e4 : (i : Int) + 1 ≤ l.length := by omega
      simp (disch := first | assumption | omega | (simp only [List.length_append, List.length_cons, List.length_nil]; omega)) only [go_sem, reduceCtorEq, Nat.reduceEqDiff, ↓reduceIte]
      refine hi.use ?_
      simp (disch := first | assumption | omega | (simp only [List.length_append, List.length_cons, List.length_nil]; omega)) only [go_sem, reduceCtorEq, Nat.reduceEqDiff, ↓reduceIte, e1, e2, List.take_length]
      exact retC_by (by repeat' (first | exact Drop.refl _ | with_reducible refine Drop.off ?_ (by assumption))) (.refl _) ⟨rfl, rfl⟩
    · have e : Lib.indexByte l c = -1 := by omega
      rw [e] at hi ⊢
      rw [if_neg (by omega)]
      simp (disch := first | assumption | omega | (simp only [List.length_append, List.length_cons, List.length_nil]; omega)) only [go_sem, reduceCtorEq, Nat.reduceEqDiff, ↓reduceIte]
      refine hi.use ?_
      simp (disch := first | assumption | omega | (simp only [List.length_append, List.length_cons, List.length_nil]; omega)) only [go_sem, reduceCtorEq, Nat.reduceEqDiff, Int.reduceLE, ↓reduceIte, Int.reduceNeg]
      exact retC_by (by repeat' (first | exact Drop.refl _ | with_reducible refine Drop.off ?_ (by assumption))) (.refl _) ⟨rfl, rfl⟩
  intro σ
  refine a107 (by simp) ?_
  simp (disch := first | assumption | omega | (simp only [List.length_append, List.length_cons, List.length_nil]; omega)) only [go_sem, reduceCtorEq, Nat.reduceEqDiff, ↓reduceIte]
  refine h1.use ?_
  simp (disch := first | assumption | omega | (simp only [List.length_append, List.length_cons, List.length_nil]; omega)) only [go_sem, Nat.reduceEqDiff, ↓reduceIte]
  exact retC_by (by repeat' (first | exact Drop.refl _ | with_reducible refine Drop.off ?_ (by assumption))) (.refl _) ⟨rfl, rfl⟩
end Go.A
namespace Go.A
open Go.Proofs
set_option maxRecDepth 100000
set_option linter.unusedSimpArgs false
set_option linter.unusedVariables false
def resAV (o : Option Int) : AV := .tuple [.int .i64 (o.getD 0), .bool o.isSome]
theorem size_ok (a : Int) (h0 : -9223372036854775808 ≤ a) (h1 : a ≤ 9223372036854775807) : Pure Tryz.prog 98 [.int .i64 a] (.int .u64 (a.natAbs : Nat)) := by
  intro σ
  refine a98 (by simp) ?_
  by_cases h : a < 0
  · have e : IntKind.u64.wrap (IntKind.i64.wrap (0 - a)) = ((a.natAbs : Nat) : Int) := by rw [IntKind.wrap_u64, IntKind.wrap_i64]; omega
    simp (disch := first | assumption | omega | (simp only [List.length_append, List.length_cons, List.length_nil]; omega)) only [go_sem, reduceCtorEq, ↓reduceIte, h, e]
    exact retC_by (by repeat' (first | exact Drop.refl _ | with_reducible refine Drop.off ?_ (by assumption))) (.refl _) ⟨rfl, rfl⟩
  · have e : IntKind.u64.wrap a = ((a.natAbs : Nat) : Int) := by rw [IntKind.wrap_u64]; omega
    simp (disch := first | assumption | omega | (simp only [List.length_append, List.length_cons, List.length_nil]; omega)) only [go_sem, reduceCtorEq, ↓reduceIte, h, e]
    exact retC_by (by repeat' (first | exact Drop.refl _ | with_reducible refine Drop.off ?_ (by assumption))) (.refl _) ⟨rfl, rfl⟩
theorem made_ok (m : Bool) (lo : Nat) (h : lo < 18446744073709551616) : Pure Tryz.prog 130 [.bool m, .int .u64 0, .int .u64 lo] (resAV (madeP m lo)) := by
  intro σ
  refine a130 (by simp) ?_
  unfold madeP
  by_cases hm : lo ≤ 999999999999999999
  · have g1 : ¬ (999999999999999999 : Int) < lo := by omega
    have e1 : IntKind.i64.wrap (lo : Int) = lo := by rw [IntKind.wrap_i64]; omega
    have e2 : IntKind.i64.wrap (-(lo : Int)) = -lo := by rw [IntKind.wrap_i64]; omega
    rw [if_pos hm]
    cases m
    · simp (disch := first | assumption | omega | (simp only [List.length_append, List.length_cons, List.length_nil]; omega)) only [go_sem, reduceCtorEq, Nat.reduceEqDiff, Int.reduceLT, ↓reduceIte, g1, e1]
      exact retC_by (by repeat' (first | exact Drop.refl _ | with_reducible refine Drop.off ?_ (by assumption))) (.refl _) ⟨rfl, rfl⟩
    · simp (disch := first | assumption | omega | (simp only [List.length_append, List.length_cons, List.length_nil]; omega)) only [go_sem, reduceCtorEq, Nat.reduceEqDiff, Int.reduceLT, ↓reduceIte, g1, e1]
      refine retC_by (by repeat' (first | exact Drop.refl _ | with_reducible refine Drop.off ?_ (by assumption))) (.refl _) ⟨?_, rfl⟩
      rw [show (0 : Int) - lo = -lo by omega]
      rfl
  · have g1 : (999999999999999999 : Int) < lo := by omega
    rw [if_neg hm]
    simp (disch := first | assumption | omega | (simp only [List.length_append, List.length_cons, List.length_nil]; omega)) only [go_sem, Nat.reduceEqDiff, Int.reduceLT, ↓reduceIte, g1]
    exact retC_by (by repeat' (first | exact Drop.refl _ | with_reducible refine Drop.off ?_ (by assumption))) (.refl _) ⟨rfl, rfl⟩
end Go.A
namespace Go.A
open Go.Proofs
set_option maxRecDepth 100000
set_option linter.unusedSimpArgs false
set_option linter.unusedVariables false
theorem dtext_ok {σ : ASt} (h : Tab σ) {a : Int} (ha : a.natAbs ≤ 999999999999999999) : ACalls Tryz.prog 73 [.int .i64 a] σ fun v σ' => v = .str (textD a) ∧ σ' = σ := by
  have hS := size_ok a (by omega) (by omega)
  obtain ⟨T, hT⟩ : ∃ T, textD a = T := ⟨_, rfl⟩
  rw [hT]
  unfold textD placesP at hT
  obtain ⟨s, hs⟩ : ∃ s, a.natAbs = s := ⟨_, rfl⟩
  rw [hs] at hS hT ha
  have hd : (s : Int).tdiv 10000 = ((s / 10000 : Nat) : Int) := by rw [Int.tdiv_eq_ediv_of_nonneg (by omega)]; rfl
  have hm : (s : Int).tmod 10000 = ((s % 10000 : Nat) : Int) := by rw [Int.tmod_eq_emod_of_nonneg (by omega)]; rfl
  have hp : s % 10000 < 10000 := Nat.mod_lt _ (by omega)
  have hw : s / 10000 ≤ 99999999999999 := by omega
  obtain ⟨p, hpp⟩ : ∃ p, s % 10000 = p := ⟨_, rfl⟩
  obtain ⟨q, hqq⟩ : ∃ q, s / 10000 = q := ⟨_, rfl⟩
  rw [hpp] at hp hm hT
  rw [hqq] at hd hw hT
  have hqw : IntKind.u64.wrap (q : Int) = q := by rw [IntKind.wrap_u64]; omega
  refine a73 (by simp) ?_
  simp (disch := first | assumption | omega | (simp only [List.length_append, List.length_cons, List.length_nil]; omega)) only [go_sem, reduceCtorEq, ↓reduceIte]
  refine hS.use ?_
  simp (disch := first | assumption | omega | (simp only [List.length_append, List.length_cons, List.length_nil]; omega)) only [go_sem, ↓reduceIte, hd, hqw]
  refine (fmt_ok h (u := q) (by omega)).mono ?_
  rintro v σ' ⟨rfl, rfl⟩
  simp (disch := first | assumption | omega | (simp only [List.length_append, List.length_cons, List.length_nil]; omega)) only [go_sem, Nat.reduceEqDiff, ↓reduceIte, hm]
  have hql : (Lib.decDigits q).length ≤ 15 := dd_len 14 q (by omega)
  by_cases h0 : p = 0
  · subst h0
    rw [if_pos rfl, List.append_nil] at hT
    have g0 : ¬ (0 : Int) < ((0 : Nat) : Int) := by omega
    simp (disch := first | assumption | omega | (simp only [List.length_append, List.length_cons, List.length_nil]; omega)) only [go_sem, reduceCtorEq, Int.reduceLT, ↓reduceIte]
    by_cases hn : a < 0
    · have e1 : binS .add [45] (Lib.decDigits q) = some (.str T) := by rw [binS_add (by simp; omega), ← hT, if_pos hn]
      simp (disch := first | assumption | omega | (simp only [List.length_append, List.length_cons, List.length_nil]; omega)) only [go_sem, Nat.reduceEqDiff, ↓reduceIte, hn, e1]
      exact retC_by (by repeat' (first | exact Drop.refl _ | with_reducible refine Drop.off ?_ (by assumption))) (.refl _) ⟨rfl, rfl⟩
    · rw [if_neg hn, List.nil_append] at hT
      subst hT
      simp (disch := first | assumption | omega | (simp only [List.length_append, List.length_cons, List.length_nil]; omega)) only [go_sem, Nat.reduceEqDiff, ↓reduceIte, hn]
      exact retC_by (by repeat' (first | exact Drop.refl _ | with_reducible refine Drop.off ?_ (by assumption))) (.refl _) ⟨rfl, rfl⟩
  · rw [if_neg h0] at hT
    have g0 : (0 : Int) < (p : Int) := by omega
    have hDl : (Lib.decDigits (10000 + p)).length ≤ 5 := dd_len 4 _ (by omega)
    have hD1 : 1 ≤ (Lib.decDigits (10000 + p)).length := List.length_pos_iff.2 (dd_len_pos _)
    have hF := fmt_ok h (u := 10000 + p) (by omega)
    rw [show (((10000 + p : Nat) : Int)) = (10000 : Int) + p by omega] at hF
    have htl : (Lib.decDigits (10000 + p)).tail.length ≤ 4 := by rw [List.length_tail]; omega
    rw [← List.drop_one] at hT htl
    generalize Lib.decDigits (10000 + p) = D at *
    have hR := trimRight_ok (D.drop 1) 48 (by decide) (by omega)
    have hRl : (Lib.trimRightB (D.drop 1) 48).length ≤ 4 := by
      have := congrArg List.length (trim_back 48 (D.drop 1))
      rw [List.length_append] at this
      omega
    generalize Lib.trimRightB (D.drop 1) 48 = X at *
    have e1 : binS .add [46] X = some (.str (46 :: X)) := binS_add (by simp; omega)
    have e2 : binS .add (Lib.decDigits q) (46 :: X) = some (.str (Lib.decDigits q ++ 46 :: X)) := binS_add (by simp; omega)
    have g5 : (1 : Int) ≤ D.length := by omega
    simp (disch := first | assumption | omega | (simp only [List.length_append, List.length_cons, List.length_nil]; omega)) only [go_sem, Nat.reduceEqDiff, ↓reduceIte, g0]
    refine hF.mono ?_
    rintro v σ' ⟨rfl, rfl⟩
    simp (disch := first | assumption | omega | (simp only [List.length_append, List.length_cons, List.length_nil]; omega)) only [go_sem, ↓reduceIte, Int.reduceToNat, List.take_length]
    refine hR.use ?_
    simp (disch := first | assumption | omega | (simp only [List.length_append, List.length_cons, List.length_nil]; omega)) only [go_sem, reduceCtorEq, Nat.reduceEqDiff, ↓reduceIte, e1, e2]
    by_cases hn : a < 0
    · have e3 : binS .add [45] (Lib.decDigits q ++ 46 :: X) = some (.str T) := by rw [binS_add (by simp; omega), ← hT, if_pos hn]
      simp (disch := first | assumption | omega | (simp only [List.length_append, List.length_cons, List.length_nil]; omega)) only [go_sem, Nat.reduceEqDiff, ↓reduceIte, hn, e3]
      exact retC_by (by repeat' (first | exact Drop.refl _ | with_reducible refine Drop.off ?_ (by assumption))) (.refl _) ⟨rfl, rfl⟩
    · rw [if_neg hn, List.nil_append] at hT
      subst hT
      simp (disch := first | assumption | omega | (simp only [List.length_append, List.length_cons, List.length_nil]; omega)) only [go_sem, Nat.reduceEqDiff, ↓reduceIte, hn]
      exact retC_by (by repeat' (first | exact Drop.refl _ | with_reducible refine Drop.off ?_ (by assumption))) (.refl _) ⟨rfl, rfl⟩
end Go.A
namespace Go.A
open Go.Proofs
set_option maxRecDepth 100000
set_option linter.unusedSimpArgs false
set_option linter.unusedVariables false
theorem prefix_minus (s : List UInt8) : Lib.hasPrefix s [45] = decide (s.head? = some 45) := by
  unfold Lib.hasPrefix
  cases s with
  | nil => rfl
  | cons c l =>
    simp only [List.isPrefixOf, Bool.and_true, List.head?_cons, Option.some.injEq]
    by_cases h : c = 45
    · subst h; rfl
    · have h1 : (45 == c) = false := by simpa using fun e => h e.symm
      rw [h1]; simp [h]
theorem trim_minus (s : List UInt8) : Lib.trimPrefix s [45] = if s.head? = some 45 then s.drop 1 else s := by
  unfold Lib.trimPrefix
  rw [prefix_minus]
  by_cases h : s.head? = some 45
  · simp [h]
  · simp [h]
theorem cut_len (l : List UInt8) (c : UInt8) : (Lib.cut l [c]).1.length + (Lib.cut l [c]).2.1.length ≤ l.length := by
  unfold Lib.cut
  split
  · have := Lib.index_room l [c] (by assumption)
    simp at this ⊢
    omega
  · simp
set_option maxHeartbeats 1000000 in
theorem dparse_ok (s : List UInt8) (hs : s.length ≤ 100000) : Pure Tryz.prog 113 [.str s] (resAV (parseD s)) := by
  intro σ
  have hP := cutPrefix_ok s [45]
  rw [prefix_minus, trim_minus] at hP
  obtain ⟨R, hR⟩ : ∃ R, parseD s = R := ⟨_, rfl⟩
  rw [hR]
  unfold parseD at hR
  dsimp only at hR
  generalize hm : decide (s.head? = some 45) = minus at *
  have hbl : (if s.head? = some 45 then s.drop 1 else s).length ≤ 100000 := by
    split
    · rw [List.length_drop]; omega
    · exact hs
  generalize (if s.head? = some 45 then s.drop 1 else s) = body at *
  have hC := cutc_ok body 46 (by omega)
  have hCl := cut_len body 46
  have hnf : (Lib.cut body [46]).2.2 = false → (Lib.cut body [46]).2.1 = [] := by
    unfold Lib.cut
    split <;> simp
  generalize (Lib.cut body [46]).1 = whole at *
  generalize (Lib.cut body [46]).2.1 = part at *
  generalize (Lib.cut body [46]).2.2 = dot at *
  unfold parseQ at hR
  obtain ⟨F, hF⟩ : ∃ F, F = ACode.wp Tryz.prog c113_32 := ⟨_, rfl⟩
  have fin : ∀ (a : AFr), part.length ≤ 4 → (accP 0 (whole ++ part ++ List.replicate (4 - part.length) 48)).bind (madeP minus) = R → (a 5 = .bool minus ∧ a 6 = .str whole ∧ a 7 = .str part) → F (RetQ [.t 2, .t 3] fun v σ' => v = resAV R ∧ σ' = σ) a σ := by
    intro a hp4 hacc hf
    rw [hF]
    have hl2 : whole.length + part.length ≤ 9223372036854775807 := by omega
    have g4 : (part.length : Int) ≤ 4 := by omega
    have e0 : ([48, 48, 48, 48] : List UInt8).drop part.length = List.replicate (4 - part.length) 48 := by
      have : part.length = 0 ∨ part.length = 1 ∨ part.length = 2 ∨ part.length = 3 ∨ part.length = 4 := by omega
      rcases this with h | h | h | h | h <;> rw [h] <;> rfl
    have e1 : binS .add (whole ++ part) (List.replicate (4 - part.length) 48) = some (.str (whole ++ part ++ List.replicate (4 - part.length) 48)) := binS_add (by simp; omega)
    obtain ⟨M, hM⟩ : ∃ M, whole ++ part ++ List.replicate (4 - part.length) 48 = M := ⟨_, rfl⟩
    rw [hM] at hacc e1
    have hMl : M.length ≤ 1000000 := by rw [← hM]; simp; omega
    simp (disch := first | assumption | omega | (simp only [List.length_append, List.length_cons, List.length_nil]; omega)) only [go_sem, Nat.reduceEqDiff, Nat.reduceAdd, ↓reduceIte, Int.reduceToNat, hf, e0, e1]
    refine s2b_shr ?_
    simp (disch := first | assumption | omega | (simp only [List.length_append, List.length_cons, List.length_nil]; omega)) only [go_sem, ↓reduceIte]
    refine wp_loop_on (fun (i : Nat) a σ' => i ≤ M.length ∧ (∃ n : Nat, n ≤ 999999999999999999 ∧ accP 0 M = accP n (M.drop i) ∧ a 9 = .int .u64 n) ∧ (a 5 = .bool minus ∧ a 44 = .sl .shr (bytesAV M) ∧ a 45 = .int .i64 M.length ∧ a 46 = .int .i64 i) ∧ σ' = σ) (fun i => M.length - i) 0 ⟨Nat.zero_le _, ⟨0, by omega, rfl, ?_⟩, ?_, rfl⟩ ?_
    · simp (disch := first | assumption | omega | (simp only [List.length_append, List.length_cons, List.length_nil]; omega)) only [go_sem, Nat.reduceEqDiff, ↓reduceIte]
    · simp (disch := first | assumption | omega | (simp only [List.length_append, List.length_cons, List.length_nil]; omega)) only [go_sem, Nat.reduceEqDiff, ↓reduceIte, hf]
    rintro i a σ1 ⟨hi, ⟨n, hn, hac, hf9⟩, hf, rfl⟩
    rw [hac] at hacc
    by_cases hlt : i < M.length
    · have hidx : M[i]? = some (M[i]'hlt) := List.getElem?_eq_getElem hlt
      rw [List.drop_eq_getElem_cons hlt] at hac hacc
      obtain ⟨c, hc⟩ : ∃ c, M[i]'hlt = c := ⟨_, rfl⟩
      rw [hc] at hidx hac hacc
      have hlt' : (i : Int) < M.length := by omega
      have hcb : c.toNat < 256 := c.toNat_lt
      rw [accP] at hac hacc
      by_cases h1 : c.toNat < 48
      · have h1' : (c.toNat : Int) < 48 := by omega
        rw [if_pos (by omega)] at hacc
        subst hacc
        simp (disch := first | assumption | omega | (simp only [List.length_append, List.length_cons, List.length_nil]; omega)) only [go_sem, Nat.reduceEqDiff, ↓reduceIte, hf, hlt', hidx, h1']
        exact retC_by (by repeat' (first | exact Drop.refl _ | with_reducible refine Drop.off ?_ (by assumption))) (.refl _) ⟨rfl, rfl⟩
      have h1' : ¬ (c.toNat : Int) < 48 := by omega
      by_cases h2 : 57 < c.toNat
      · have h2' : (57 : Int) < c.toNat := by omega
        rw [if_pos (by omega)] at hacc
        subst hacc
        simp (disch := first | assumption | omega | (simp only [List.length_append, List.length_cons, List.length_nil]; omega)) only [go_sem, Nat.reduceEqDiff, ↓reduceIte, hf, hlt', hidx, h1', h2']
        exact retC_by (by repeat' (first | exact Drop.refl _ | with_reducible refine Drop.off ?_ (by assumption))) (.refl _) ⟨rfl, rfl⟩
      have h2' : ¬ (57 : Int) < c.toNat := by omega
      by_cases h3 : 99999999999999999 < n
      · have h3' : (99999999999999999 : Int) < n := by omega
        rw [if_pos (by omega)] at hacc
        subst hacc
        simp (disch := first | assumption | omega | (simp only [List.length_append, List.length_cons, List.length_nil]; omega)) only [go_sem, Nat.reduceEqDiff, ↓reduceIte, hf, hf9, hlt', hidx, h1', h2', h3']
        exact retC_by (by repeat' (first | exact Drop.refl _ | with_reducible refine Drop.off ?_ (by assumption))) (.refl _) ⟨rfl, rfl⟩
      have h3' : ¬ (99999999999999999 : Int) < n := by omega
      rw [if_neg (by omega)] at hac hacc
      obtain ⟨n2, hn2⟩ : ∃ n2 : Nat, 10 * n + (c.toNat - 48) = n2 := ⟨_, rfl⟩
      rw [hn2] at hac hacc
      have e2 : 10 * (n : Int) + ((c.toNat : Int) - 48) = n2 := by omega
      simp (disch := first | assumption | omega | (simp only [List.length_append, List.length_cons, List.length_nil]; omega)) only [go_sem, Nat.reduceEqDiff, ↓reduceIte, hf, hf9, hlt', hidx, h1', h2', h3', e2]
      exact ⟨i + 1, by omega, by omega, ⟨n2, by omega, hac, rfl⟩, rfl⟩
    · have hlt' : ¬ (i : Int) < M.length := by omega
      rw [List.drop_eq_nil_of_le (by omega), accP, Option.bind_some] at hacc
      subst hacc
      have hMd := made_ok minus n (by omega)
      simp (disch := first | assumption | omega | (simp only [List.length_append, List.length_cons, List.length_nil]; omega)) only [go_sem, Nat.reduceEqDiff, ↓reduceIte, hf, hf9, hlt']
      refine hMd.use ?_
      simp only [resAV]
      simp (disch := first | assumption | omega | (simp only [List.length_append, List.length_cons, List.length_nil]; omega)) only [go_sem, Nat.reduceEqDiff, ↓reduceIte]
      exact retC_by (by repeat' (first | exact Drop.refl _ | with_reducible refine Drop.off ?_ (by assumption))) (.refl _) ⟨rfl, rfl⟩
  refine a113 (by simp) ?_
  simp (disch := first | assumption | omega | (simp only [List.length_append, List.length_cons, List.length_nil]; omega)) only [go_sem, reduceCtorEq, ↓reduceIte]
  refine hP.use ?_
  simp (disch := first | assumption | omega | (simp only [List.length_append, List.length_cons, List.length_nil]; omega)) only [go_sem, Nat.reduceEqDiff, ↓reduceIte]
  refine hC.use ?_
  by_cases hw : whole = []
  · subst hw
    rw [if_pos (.inl rfl)] at hR
    subst hR
    simp (disch := first | assumption | omega | (simp only [List.length_append, List.length_cons, List.length_nil]; omega)) only [go_sem, Nat.reduceEqDiff, ↓reduceIte, ←hF]
    exact retC_by (by repeat' (first | exact Drop.refl _ | with_reducible refine Drop.off ?_ (by assumption))) (.refl _) ⟨rfl, rfl⟩
  cases dot with
  | false =>
    have hp := hnf rfl
    subst hp
    rw [if_neg (by rintro (h | ⟨h, _⟩) <;> contradiction)] at hR
    simp (disch := first | assumption | omega | (simp only [List.length_append, List.length_cons, List.length_nil]; omega)) only [go_sem, Nat.reduceEqDiff, ↓reduceIte, hw, ←hF]
    refine fin _ (by simp) hR ?_
    simp (disch := first | assumption | omega | (simp only [List.length_append, List.length_cons, List.length_nil]; omega)) only [go_sem, Nat.reduceEqDiff, ↓reduceIte]
  | true =>
    by_cases hp : part = []
    · subst hp
      rw [if_pos (.inr ⟨rfl, .inl rfl⟩)] at hR
      subst hR
      simp (disch := first | assumption | omega | (simp only [List.length_append, List.length_cons, List.length_nil]; omega)) only [go_sem, Nat.reduceEqDiff, ↓reduceIte, hw, ←hF]
      exact retC_by (by repeat' (first | exact Drop.refl _ | with_reducible refine Drop.off ?_ (by assumption))) (.refl _) ⟨rfl, rfl⟩
    by_cases h4 : 4 < part.length
    · have h4' : (4 : Int) < part.length := by omega
      rw [if_pos (.inr ⟨rfl, .inr h4⟩)] at hR
      subst hR
      simp (disch := first | assumption | omega | (simp only [List.length_append, List.length_cons, List.length_nil]; omega)) only [go_sem, Nat.reduceEqDiff, ↓reduceIte, hw, hp, h4', ←hF]
      exact retC_by (by repeat' (first | exact Drop.refl _ | with_reducible refine Drop.off ?_ (by assumption))) (.refl _) ⟨rfl, rfl⟩
    · have h4' : ¬ (4 : Int) < part.length := by omega
      rw [if_neg (by rintro (h | ⟨_, h | h⟩) <;> contradiction)] at hR
      simp (disch := first | assumption | omega | (simp only [List.length_append, List.length_cons, List.length_nil]; omega)) only [go_sem, Nat.reduceEqDiff, ↓reduceIte, hw, hp, h4', ←hF]
      refine fin _ (by omega) hR ?_
      simp (disch := first | assumption | omega | (simp only [List.length_append, List.length_cons, List.length_nil]; omega)) only [go_sem, Nat.reduceEqDiff, ↓reduceIte]
theorem whole_ok {a : Int} (ha : a.natAbs ≤ 999999999999999999) : Pure Tryz.prog 102 [.int .i64 a] (.int .i64 (a.tdiv 10000)) := by
  intro σ
  have hqb : (a.tdiv 10000).natAbs ≤ a.natAbs := by rw [Int.natAbs_tdiv]; exact Nat.div_le_self _ _
  have e : IntKind.i64.wrap (a.tdiv 10000) = a.tdiv 10000 := by rw [IntKind.wrap_i64]; omega
  refine a102 (by simp) ?_
  simp (disch := first | assumption | omega | (simp only [List.length_append, List.length_cons, List.length_nil]; omega)) only [go_sem, reduceCtorEq, ↓reduceIte, e]
  exact retC_by (by repeat' (first | exact Drop.refl _ | with_reducible refine Drop.off ?_ (by assumption))) (.refl _) ⟨rfl, rfl⟩
end Go.A
namespace Go.A
open Go.Proofs
/-! 62: tabular/token.word -/
def c62_0 : ACode := .ops [
 ⟨some 2, none, .q (.mv (.v (.bool false))), []⟩]
def c62_1 : ACode := .ops [
 ⟨some 3, none, .q (.mv (.t 0)), []⟩,
 ⟨some 4, none, .q (.bin .geq (.t 3) (.v (.int .u8 48))), []⟩,
 ⟨some 5, none, .q (.mv (.t 4)), []⟩,
 ⟨some 6, some (5, true), .q (.mv (.t 0)), []⟩,
 ⟨some 7, some (5, true), .q (.bin .leq (.t 6) (.v (.int .u8 57))), []⟩,
 ⟨some 8, none, .q (.pick (.t 5) (.t 7) (.v (.bool false))), []⟩,
 ⟨some 9, none, .q (.mv (.t 8)), []⟩,
 ⟨some 10, some (9, false), .q (.mv (.t 0)), []⟩,
 ⟨some 11, some (9, false), .q (.bin .geq (.t 10) (.v (.int .u8 97))), []⟩,
 ⟨some 12, some (9, false), .q (.mv (.t 11)), []⟩,
 ⟨some 13, some (12, true), .q (.mv (.t 0)), []⟩,
 ⟨some 14, some (12, true), .q (.bin .leq (.t 13) (.v (.int .u8 122))), []⟩,
 ⟨some 15, some (9, false), .q (.pick (.t 12) (.t 14) (.v (.bool false))), []⟩,
 ⟨some 16, none, .q (.pick (.t 9) (.v (.bool true)) (.t 15)), []⟩,
 ⟨some 17, none, .q (.mv (.t 16)), []⟩,
 ⟨some 18, some (17, false), .q (.mv (.t 0)), []⟩,
 ⟨some 19, some (17, false), .q (.bin .geq (.t 18) (.v (.int .u8 65))), []⟩,
 ⟨some 20, some (17, false), .q (.mv (.t 19)), []⟩,
 ⟨some 21, some (20, true), .q (.mv (.t 0)), []⟩,
 ⟨some 22, some (20, true), .q (.bin .leq (.t 21) (.v (.int .u8 90))), []⟩,
 ⟨some 23, some (17, false), .q (.pick (.t 20) (.t 22) (.v (.bool false))), []⟩,
 ⟨some 24, none, .q (.pick (.t 17) (.v (.bool true)) (.t 23)), []⟩,
 ⟨some 25, none, .q (.mv (.t 24)), []⟩,
 ⟨some 26, some (25, false), .q (.mv (.t 0)), []⟩,
 ⟨some 27, some (25, false), .q (.bin .eql (.t 26) (.v (.int .u8 95))), []⟩,
 ⟨some 28, none, .q (.pick (.t 25) (.v (.bool true)) (.t 27)), []⟩,
 ⟨some 29, none, .q (.mv (.t 28)), []⟩,
 ⟨some 30, some (29, false), .q (.mv (.t 0)), []⟩,
 ⟨some 31, some (29, false), .q (.bin .eql (.t 30) (.v (.int .u8 36))), []⟩,
 ⟨some 32, none, .q (.pick (.t 29) (.v (.bool true)) (.t 31)), []⟩,
 ⟨some 33, none, .q (.mv (.t 32)), []⟩,
 ⟨some 34, some (33, false), .q (.mv (.t 0)), []⟩,
 ⟨some 35, some (33, false), .q (.bin .eql (.t 34) (.v (.int .u8 46))), []⟩,
 ⟨some 36, none, .q (.pick (.t 33) (.v (.bool true)) (.t 35)), []⟩,
 ⟨some 2, none, .q (.mv (.t 36)), []⟩]
def c62_2 : ACode := .seq c62_1 .ret
def c62_3 : ACode := .seq c62_0 c62_2
@[go_sem] theorem c62_0_wp : type_of% (wp_of c62_0.eq_1) := wp_of c62_0.eq_1
@[go_sem] theorem c62_1_wp : type_of% (wp_of c62_1.eq_1) := wp_of c62_1.eq_1
@[go_sem] theorem c62_2_wp : type_of% (wp_of c62_2.eq_1) := wp_of c62_2.eq_1
@[go_sem] theorem c62_3_wp : type_of% (wp_of c62_3.eq_1) := wp_of c62_3.eq_1
def c62 : AFn := ⟨37, [.t 2], c62_3⟩
set_option maxRecDepth 100000 in
theorem c62_ok : compF Tryz.prog Tryz.f62 = some c62 := by kernel_rfl
theorem a62 {args : List AV} {σ : ASt} {R : AV → ASt → Prop} (hl : args.length ≤ 37) (h : c62_3.wp Tryz.prog (RetQ [.t 2] R) (init args) σ) : ACalls Tryz.prog 62 args σ R := acalls_of Tryz.func62 c62_ok hl h
/-! 85: tabular/token.isNum -/
def c85_0 : ACode := .ops [
 ⟨some 2, none, .q (.mv (.v (.bool false))), []⟩]
def c85_1 : ACode := .ops [
 ⟨some 9, none, .q (.mv (.t 0)), []⟩,
 ⟨some 10, none, .e (.call 107 [(.t 9), (.v (.str [46]))]), []⟩,
 ⟨some 8, none, .q (.mv (.t 10)), []⟩,
 ⟨some 11, none, .q (.ext 0 (.t 8)), []⟩,
 ⟨some 12, none, .q (.ext 1 (.t 8)), []⟩,
 ⟨some 13, none, .q (.ext 2 (.t 8)), []⟩,
 ⟨some 3, none, .q (.mv (.t 11)), []⟩,
 ⟨some 4, none, .q (.mv (.t 12)), []⟩,
 ⟨some 5, none, .q (.mv (.t 13)), []⟩]
def c85_2 : ACode := .ops [
 ⟨some 14, none, .q (.mv (.t 3)), []⟩,
 ⟨some 15, none, .q (.bin .eql (.t 14) (.v (.str []))), []⟩,
 ⟨some 16, none, .q (.mv (.t 15)), []⟩,
 ⟨some 17, some (16, false), .q (.mv (.t 5)), []⟩,
 ⟨some 18, some (16, false), .q (.mv (.t 17)), []⟩,
 ⟨some 19, some (18, true), .q (.mv (.t 4)), []⟩,
 ⟨some 20, some (18, true), .q (.bin .eql (.t 19) (.v (.str []))), []⟩,
 ⟨some 21, some (18, true), .q (.mv (.t 20)), []⟩,
 ⟨some 22, some (21, false), .q (.mv (.t 4)), []⟩,
 ⟨some 23, some (21, false), .q (.lenS (.t 22)), []⟩,
 ⟨some 24, some (21, false), .q (.bin .gtr (.t 23) (.v (.int .i64 4))), []⟩,
 ⟨some 25, some (18, true), .q (.pick (.t 21) (.v (.bool true)) (.t 24)), []⟩,
 ⟨some 26, some (16, false), .q (.pick (.t 18) (.t 25) (.v (.bool false))), []⟩,
 ⟨some 27, none, .q (.pick (.t 16) (.v (.bool true)) (.t 26)), []⟩]
def c85_3 : ACode := .ops [
 ⟨some 2, none, .q (.mv (.v (.bool false))), []⟩]
def c85_4 : ACode := .seq c85_3 .ret
def c85_5 : ACode := .cond (.t 27) c85_4 .skip
def c85_6 : ACode := .seq c85_2 c85_5
def c85_7 : ACode := .ops [
 ⟨some 28, none, .q (.mv (.t 3)), []⟩,
 ⟨some 29, none, .q (.mv (.t 4)), []⟩,
 ⟨some 30, none, .q (.bin .add (.t 28) (.t 29)), []⟩,
 ⟨some 31, none, .e (.s2b (.t 30)), []⟩,
 ⟨some 32, none, .q (.len (.t 31)), []⟩,
 ⟨some 33, none, .q (.mv (.v (.int .i64 0))), []⟩]
def c85_8 : ACode := .ops [
 ⟨some 34, none, .q (.bin .lss (.t 33) (.t 32)), []⟩]
def c85_9 : ACode := .cond (.t 34) .skip (.exit 0)
def c85_10 : ACode := .ops [
 ⟨some 35, none, .q (.ia 1 (.t 31) (.t 33)), []⟩,
 ⟨some 36, none, .q (.ld none (.t 35)), []⟩,
 ⟨some 7, none, .q (.mv (.t 36)), []⟩]
def c85_11 : ACode := .ops [
 ⟨some 37, none, .q (.mv (.t 7)), []⟩,
 ⟨some 38, none, .e (.call 108 [(.t 37)]), []⟩,
 ⟨some 39, none, .q (.un .not (.t 38)), []⟩]
def c85_12 : ACode := .ops [
 ⟨some 2, none, .q (.mv (.v (.bool false))), []⟩]
def c85_13 : ACode := .seq c85_12 .ret
def c85_14 : ACode := .cond (.t 39) c85_13 .skip
def c85_15 : ACode := .seq c85_11 c85_14
def c85_16 : ACode := .seq c85_10 c85_15
def c85_17 : ACode := .block 1 c85_16
def c85_18 : ACode := .ops [
 ⟨some 40, none, .q (.bin .add (.t 33) (.v (.int .i64 1))), []⟩,
 ⟨some 33, none, .q (.mv (.t 40)), []⟩]
def c85_19 : ACode := .seq c85_17 c85_18
def c85_20 : ACode := .seq c85_9 c85_19
def c85_21 : ACode := .seq c85_8 c85_20
def c85_22 : ACode := .loop c85_21
def c85_23 : ACode := .block 0 c85_22
def c85_24 : ACode := .seq c85_7 c85_23
def c85_25 : ACode := .ops [
 ⟨some 2, none, .q (.mv (.v (.bool true))), []⟩]
def c85_26 : ACode := .seq c85_25 .ret
def c85_27 : ACode := .seq c85_24 c85_26
def c85_28 : ACode := .seq c85_6 c85_27
def c85_29 : ACode := .seq c85_1 c85_28
def c85_30 : ACode := .seq c85_0 c85_29
@[go_sem] theorem c85_0_wp : type_of% (wp_of c85_0.eq_1) := wp_of c85_0.eq_1
@[go_sem] theorem c85_1_wp : type_of% (wp_of c85_1.eq_1) := wp_of c85_1.eq_1
@[go_sem] theorem c85_2_wp : type_of% (wp_of c85_2.eq_1) := wp_of c85_2.eq_1
@[go_sem] theorem c85_3_wp : type_of% (wp_of c85_3.eq_1) := wp_of c85_3.eq_1
@[go_sem] theorem c85_4_wp : type_of% (wp_of c85_4.eq_1) := wp_of c85_4.eq_1
@[go_sem] theorem c85_5_wp : type_of% (wp_of c85_5.eq_1) := wp_of c85_5.eq_1
@[go_sem] theorem c85_6_wp : type_of% (wp_of c85_6.eq_1) := wp_of c85_6.eq_1
@[go_sem] theorem c85_7_wp : type_of% (wp_of c85_7.eq_1) := wp_of c85_7.eq_1
@[go_sem] theorem c85_8_wp : type_of% (wp_of c85_8.eq_1) := wp_of c85_8.eq_1
@[go_sem] theorem c85_9_wp : type_of% (wp_of c85_9.eq_1) := wp_of c85_9.eq_1
@[go_sem] theorem c85_10_wp : type_of% (wp_of c85_10.eq_1) := wp_of c85_10.eq_1
@[go_sem] theorem c85_11_wp : type_of% (wp_of c85_11.eq_1) := wp_of c85_11.eq_1
@[go_sem] theorem c85_12_wp : type_of% (wp_of c85_12.eq_1) := wp_of c85_12.eq_1
@[go_sem] theorem c85_13_wp : type_of% (wp_of c85_13.eq_1) := wp_of c85_13.eq_1
@[go_sem] theorem c85_14_wp : type_of% (wp_of c85_14.eq_1) := wp_of c85_14.eq_1
@[go_sem] theorem c85_15_wp : type_of% (wp_of c85_15.eq_1) := wp_of c85_15.eq_1
@[go_sem] theorem c85_16_wp : type_of% (wp_of c85_16.eq_1) := wp_of c85_16.eq_1
@[go_sem] theorem c85_17_wp : type_of% (wp_of c85_17.eq_1) := wp_of c85_17.eq_1
@[go_sem] theorem c85_18_wp : type_of% (wp_of c85_18.eq_1) := wp_of c85_18.eq_1
@[go_sem] theorem c85_19_wp : type_of% (wp_of c85_19.eq_1) := wp_of c85_19.eq_1
@[go_sem] theorem c85_20_wp : type_of% (wp_of c85_20.eq_1) := wp_of c85_20.eq_1
@[go_sem] theorem c85_21_wp : type_of% (wp_of c85_21.eq_1) := wp_of c85_21.eq_1
@[go_sem] theorem c85_22_wp : type_of% (wp_of c85_22.eq_1) := wp_of c85_22.eq_1
@[go_sem] theorem c85_23_wp : type_of% (wp_of c85_23.eq_1) := wp_of c85_23.eq_1
@[go_sem] theorem c85_24_wp : type_of% (wp_of c85_24.eq_1) := wp_of c85_24.eq_1
@[go_sem] theorem c85_25_wp : type_of% (wp_of c85_25.eq_1) := wp_of c85_25.eq_1
@[go_sem] theorem c85_26_wp : type_of% (wp_of c85_26.eq_1) := wp_of c85_26.eq_1
@[go_sem] theorem c85_27_wp : type_of% (wp_of c85_27.eq_1) := wp_of c85_27.eq_1
@[go_sem] theorem c85_28_wp : type_of% (wp_of c85_28.eq_1) := wp_of c85_28.eq_1
@[go_sem] theorem c85_29_wp : type_of% (wp_of c85_29.eq_1) := wp_of c85_29.eq_1
@[go_sem] theorem c85_30_wp : type_of% (wp_of c85_30.eq_1) := wp_of c85_30.eq_1
def c85 : AFn := ⟨41, [.t 2], c85_30⟩
set_option maxRecDepth 100000 in
theorem c85_ok : compF Tryz.prog Tryz.f85 = some c85 := by kernel_rfl
theorem a85 {args : List AV} {σ : ASt} {R : AV → ASt → Prop} (hl : args.length ≤ 41) (h : c85_30.wp Tryz.prog (RetQ [.t 2] R) (init args) σ) : ACalls Tryz.prog 85 args σ R := acalls_of Tryz.func85 c85_ok hl h
/-! 86: tabular/token.isRef -/
def c86_0 : ACode := .ops [
 ⟨some 2, none, .q (.mv (.v (.bool false))), []⟩]
def c86_1 : ACode := .ops [
 ⟨some 6, none, .q (.mv (.t 0)), []⟩,
 ⟨some 7, none, .e (.call 109 [(.t 6)]), []⟩,
 ⟨some 5, none, .q (.mv (.t 7)), []⟩,
 ⟨some 8, none, .q (.ext 0 (.t 5)), []⟩,
 ⟨some 9, none, .q (.ext 1 (.t 5)), []⟩,
 ⟨some 3, none, .e (.alloc [(.int .i64 0), (.int .i64 0), (.bool false), (.bool false)]), []⟩,
 ⟨none, none, .e (.store 4 (.t 3) (.t 8)), []⟩,
 ⟨some 4, none, .q (.mv (.t 9)), []⟩]
def c86_2 : ACode := .ops [
 ⟨some 10, none, .q (.mv (.t 4)), []⟩,
 ⟨some 2, none, .q (.mv (.t 10)), []⟩]
def c86_3 : ACode := .seq c86_2 .ret
def c86_4 : ACode := .seq c86_1 c86_3
def c86_5 : ACode := .seq c86_0 c86_4
@[go_sem] theorem c86_0_wp : type_of% (wp_of c86_0.eq_1) := wp_of c86_0.eq_1
@[go_sem] theorem c86_1_wp : type_of% (wp_of c86_1.eq_1) := wp_of c86_1.eq_1
@[go_sem] theorem c86_2_wp : type_of% (wp_of c86_2.eq_1) := wp_of c86_2.eq_1
@[go_sem] theorem c86_3_wp : type_of% (wp_of c86_3.eq_1) := wp_of c86_3.eq_1
@[go_sem] theorem c86_4_wp : type_of% (wp_of c86_4.eq_1) := wp_of c86_4.eq_1
@[go_sem] theorem c86_5_wp : type_of% (wp_of c86_5.eq_1) := wp_of c86_5.eq_1
def c86 : AFn := ⟨11, [.t 2], c86_5⟩
set_option maxRecDepth 100000 in
theorem c86_ok : compF Tryz.prog Tryz.f86 = some c86 := by kernel_rfl
theorem a86 {args : List AV} {σ : ASt} {R : AV → ASt → Prop} (hl : args.length ≤ 11) (h : c86_5.wp Tryz.prog (RetQ [.t 2] R) (init args) σ) : ACalls Tryz.prog 86 args σ R := acalls_of Tryz.func86 c86_ok hl h
/-! 87: tabular/token.great -/
def c87_0 : ACode := .ops [
 ⟨some 2, none, .q (.mv (.v (.str []))), []⟩]
def c87_1 : ACode := .ops [
 ⟨some 6, none, .q (.mv (.t 0)), []⟩,
 ⟨some 7, none, .e (.s2b (.t 6)), []⟩,
 ⟨some 3, none, .q (.mv (.t 7)), []⟩]
def c87_2 : ACode := .ops [
 ⟨some 8, none, .q (.mv (.t 3)), []⟩,
 ⟨some 9, none, .q (.len (.t 8)), []⟩,
 ⟨some 10, none, .q (.mv (.v (.int .i64 0))), []⟩]
def c87_3 : ACode := .ops [
 ⟨some 11, none, .q (.bin .lss (.t 10) (.t 9)), []⟩]
def c87_4 : ACode := .cond (.t 11) .skip (.exit 0)
def c87_5 : ACode := .ops [
 ⟨some 12, none, .q (.mv (.t 10)), []⟩,
 ⟨some 13, none, .q (.ia 1 (.t 8) (.t 10)), []⟩,
 ⟨some 14, none, .q (.ld none (.t 13)), []⟩,
 ⟨some 4, none, .q (.mv (.t 12)), []⟩,
 ⟨some 5, none, .q (.mv (.t 14)), []⟩]
def c87_6 : ACode := .ops [
 ⟨some 15, none, .q (.mv (.t 5)), []⟩,
 ⟨some 16, none, .q (.bin .geq (.t 15) (.v (.int .u8 97))), []⟩,
 ⟨some 17, none, .q (.mv (.t 16)), []⟩,
 ⟨some 18, some (17, true), .q (.mv (.t 5)), []⟩,
 ⟨some 19, some (17, true), .q (.bin .leq (.t 18) (.v (.int .u8 122))), []⟩,
 ⟨some 20, none, .q (.pick (.t 17) (.t 19) (.v (.bool false))), []⟩]
def c87_7 : ACode := .ops [
 ⟨some 21, none, .q (.mv (.t 3)), []⟩,
 ⟨some 22, none, .q (.mv (.t 4)), []⟩,
 ⟨some 23, none, .q (.mv (.t 5)), []⟩,
 ⟨some 24, none, .q (.bin .sub (.t 23) (.v (.int .u8 32))), []⟩,
 ⟨some 25, none, .q (.ia 1 (.t 21) (.t 22)), []⟩,
 ⟨none, none, .e (.store 1 (.t 25) (.t 24)), []⟩]
def c87_8 : ACode := .cond (.t 20) c87_7 .skip
def c87_9 : ACode := .seq c87_6 c87_8
def c87_10 : ACode := .seq c87_5 c87_9
def c87_11 : ACode := .block 1 c87_10
def c87_12 : ACode := .ops [
 ⟨some 26, none, .q (.bin .add (.t 10) (.v (.int .i64 1))), []⟩,
 ⟨some 10, none, .q (.mv (.t 26)), []⟩]
def c87_13 : ACode := .seq c87_11 c87_12
def c87_14 : ACode := .seq c87_4 c87_13
def c87_15 : ACode := .seq c87_3 c87_14
def c87_16 : ACode := .loop c87_15
def c87_17 : ACode := .block 0 c87_16
def c87_18 : ACode := .seq c87_2 c87_17
def c87_19 : ACode := .ops [
 ⟨some 27, none, .q (.mv (.t 3)), []⟩,
 ⟨some 28, none, .q (.b2s (.t 27)), []⟩,
 ⟨some 2, none, .q (.mv (.t 28)), []⟩]
def c87_20 : ACode := .seq c87_19 .ret
def c87_21 : ACode := .seq c87_18 c87_20
def c87_22 : ACode := .seq c87_1 c87_21
def c87_23 : ACode := .seq c87_0 c87_22
@[go_sem] theorem c87_0_wp : type_of% (wp_of c87_0.eq_1) := wp_of c87_0.eq_1
@[go_sem] theorem c87_1_wp : type_of% (wp_of c87_1.eq_1) := wp_of c87_1.eq_1
@[go_sem] theorem c87_2_wp : type_of% (wp_of c87_2.eq_1) := wp_of c87_2.eq_1
@[go_sem] theorem c87_3_wp : type_of% (wp_of c87_3.eq_1) := wp_of c87_3.eq_1
@[go_sem] theorem c87_4_wp : type_of% (wp_of c87_4.eq_1) := wp_of c87_4.eq_1
@[go_sem] theorem c87_5_wp : type_of% (wp_of c87_5.eq_1) := wp_of c87_5.eq_1
@[go_sem] theorem c87_6_wp : type_of% (wp_of c87_6.eq_1) := wp_of c87_6.eq_1
@[go_sem] theorem c87_7_wp : type_of% (wp_of c87_7.eq_1) := wp_of c87_7.eq_1
@[go_sem] theorem c87_8_wp : type_of% (wp_of c87_8.eq_1) := wp_of c87_8.eq_1
@[go_sem] theorem c87_9_wp : type_of% (wp_of c87_9.eq_1) := wp_of c87_9.eq_1
@[go_sem] theorem c87_10_wp : type_of% (wp_of c87_10.eq_1) := wp_of c87_10.eq_1
@[go_sem] theorem c87_11_wp : type_of% (wp_of c87_11.eq_1) := wp_of c87_11.eq_1
@[go_sem] theorem c87_12_wp : type_of% (wp_of c87_12.eq_1) := wp_of c87_12.eq_1
@[go_sem] theorem c87_13_wp : type_of% (wp_of c87_13.eq_1) := wp_of c87_13.eq_1
@[go_sem] theorem c87_14_wp : type_of% (wp_of c87_14.eq_1) := wp_of c87_14.eq_1
@[go_sem] theorem c87_15_wp : type_of% (wp_of c87_15.eq_1) := wp_of c87_15.eq_1
@[go_sem] theorem c87_16_wp : type_of% (wp_of c87_16.eq_1) := wp_of c87_16.eq_1
@[go_sem] theorem c87_17_wp : type_of% (wp_of c87_17.eq_1) := wp_of c87_17.eq_1
@[go_sem] theorem c87_18_wp : type_of% (wp_of c87_18.eq_1) := wp_of c87_18.eq_1
@[go_sem] theorem c87_19_wp : type_of% (wp_of c87_19.eq_1) := wp_of c87_19.eq_1
@[go_sem] theorem c87_20_wp : type_of% (wp_of c87_20.eq_1) := wp_of c87_20.eq_1
@[go_sem] theorem c87_21_wp : type_of% (wp_of c87_21.eq_1) := wp_of c87_21.eq_1
@[go_sem] theorem c87_22_wp : type_of% (wp_of c87_22.eq_1) := wp_of c87_22.eq_1
@[go_sem] theorem c87_23_wp : type_of% (wp_of c87_23.eq_1) := wp_of c87_23.eq_1
def c87 : AFn := ⟨29, [.t 2], c87_23⟩
set_option maxRecDepth 100000 in
theorem c87_ok : compF Tryz.prog Tryz.f87 = some c87 := by kernel_rfl
theorem a87 {args : List AV} {σ : ASt} {R : AV → ASt → Prop} (hl : args.length ≤ 29) (h : c87_23.wp Tryz.prog (RetQ [.t 2] R) (init args) σ) : ACalls Tryz.prog 87 args σ R := acalls_of Tryz.func87 c87_ok hl h
/-! 88: tabular/token.isName -/
def c88_0 : ACode := .ops [
 ⟨some 2, none, .q (.mv (.v (.bool false))), []⟩]
def c88_1 : ACode := .ops [
 ⟨some 4, none, .q (.mv (.t 0)), []⟩,
 ⟨some 5, none, .q (.lenS (.t 4)), []⟩,
 ⟨some 6, none, .q (.mv (.v (.int .i64 0))), []⟩]
def c88_2 : ACode := .ops [
 ⟨some 7, none, .q (.bin .lss (.t 6) (.t 5)), []⟩]
def c88_3 : ACode := .cond (.t 7) .skip (.exit 0)
def c88_4 : ACode := .ops [
 ⟨some 8, none, .q (.mv (.t 6)), []⟩,
 ⟨some 3, none, .q (.mv (.t 8)), []⟩]
def c88_5 : ACode := .ops [
 ⟨some 9, none, .q (.mv (.t 0)), []⟩,
 ⟨some 10, none, .q (.mv (.t 3)), []⟩,
 ⟨some 11, none, .q (.idx (.t 9) (.t 10)), []⟩,
 ⟨some 12, none, .e (.call 62 [(.t 11)]), []⟩,
 ⟨some 13, none, .q (.un .not (.t 12)), []⟩,
 ⟨some 14, none, .q (.mv (.t 13)), []⟩,
 ⟨some 15, some (14, false), .q (.mv (.t 0)), []⟩,
 ⟨some 16, some (14, false), .q (.mv (.t 3)), []⟩,
 ⟨some 17, some (14, false), .q (.idx (.t 15) (.t 16)), []⟩,
 ⟨some 18, some (14, false), .q (.bin .eql (.t 17) (.v (.int .u8 36))), []⟩,
 ⟨some 19, none, .q (.pick (.t 14) (.v (.bool true)) (.t 18)), []⟩,
 ⟨some 20, none, .q (.mv (.t 19)), []⟩,
 ⟨some 21, some (20, false), .q (.mv (.t 3)), []⟩,
 ⟨some 22, some (20, false), .q (.bin .eql (.t 21) (.v (.int .i64 0))), []⟩,
 ⟨some 23, some (20, false), .q (.mv (.t 22)), []⟩,
 ⟨some 24, some (23, true), .q (.mv (.t 0)), []⟩,
 ⟨some 25, some (23, true), .q (.mv (.t 3)), []⟩,
 ⟨some 26, some (23, true), .q (.idx (.t 24) (.t 25)), []⟩,
 ⟨some 27, some (23, true), .e (.call 108 [(.t 26)]), []⟩,
 ⟨some 28, some (23, true), .q (.mv (.t 27)), []⟩,
 ⟨some 29, some (28, false), .q (.mv (.t 0)), []⟩,
 ⟨some 30, some (28, false), .q (.mv (.t 3)), []⟩,
 ⟨some 31, some (28, false), .q (.idx (.t 29) (.t 30)), []⟩,
 ⟨some 32, some (28, false), .q (.bin .eql (.t 31) (.v (.int .u8 46))), []⟩,
 ⟨some 33, some (23, true), .q (.pick (.t 28) (.v (.bool true)) (.t 32)), []⟩,
 ⟨some 34, some (20, false), .q (.pick (.t 23) (.t 33) (.v (.bool false))), []⟩,
 ⟨some 35, none, .q (.pick (.t 20) (.v (.bool true)) (.t 34)), []⟩]
def c88_6 : ACode := .ops [
 ⟨some 2, none, .q (.mv (.v (.bool false))), []⟩]
def c88_7 : ACode := .seq c88_6 .ret
def c88_8 : ACode := .cond (.t 35) c88_7 .skip
def c88_9 : ACode := .seq c88_5 c88_8
def c88_10 : ACode := .seq c88_4 c88_9
def c88_11 : ACode := .block 1 c88_10
def c88_12 : ACode := .ops [
 ⟨some 36, none, .q (.bin .add (.t 6) (.v (.int .i64 1))), []⟩,
 ⟨some 6, none, .q (.mv (.t 36)), []⟩]
def c88_13 : ACode := .seq c88_11 c88_12
def c88_14 : ACode := .seq c88_3 c88_13
def c88_15 : ACode := .seq c88_2 c88_14
def c88_16 : ACode := .loop c88_15
def c88_17 : ACode := .block 0 c88_16
def c88_18 : ACode := .seq c88_1 c88_17
def c88_19 : ACode := .ops [
 ⟨some 37, none, .q (.mv (.t 0)), []⟩,
 ⟨some 38, none, .q (.bin .neq (.t 37) (.v (.str []))), []⟩,
 ⟨some 2, none, .q (.mv (.t 38)), []⟩]
def c88_20 : ACode := .seq c88_19 .ret
def c88_21 : ACode := .seq c88_18 c88_20
def c88_22 : ACode := .seq c88_0 c88_21
@[go_sem] theorem c88_0_wp : type_of% (wp_of c88_0.eq_1) := wp_of c88_0.eq_1
@[go_sem] theorem c88_1_wp : type_of% (wp_of c88_1.eq_1) := wp_of c88_1.eq_1
@[go_sem] theorem c88_2_wp : type_of% (wp_of c88_2.eq_1) := wp_of c88_2.eq_1
@[go_sem] theorem c88_3_wp : type_of% (wp_of c88_3.eq_1) := wp_of c88_3.eq_1
@[go_sem] theorem c88_4_wp : type_of% (wp_of c88_4.eq_1) := wp_of c88_4.eq_1
@[go_sem] theorem c88_5_wp : type_of% (wp_of c88_5.eq_1) := wp_of c88_5.eq_1
@[go_sem] theorem c88_6_wp : type_of% (wp_of c88_6.eq_1) := wp_of c88_6.eq_1
@[go_sem] theorem c88_7_wp : type_of% (wp_of c88_7.eq_1) := wp_of c88_7.eq_1
@[go_sem] theorem c88_8_wp : type_of% (wp_of c88_8.eq_1) := wp_of c88_8.eq_1
@[go_sem] theorem c88_9_wp : type_of% (wp_of c88_9.eq_1) := wp_of c88_9.eq_1
@[go_sem] theorem c88_10_wp : type_of% (wp_of c88_10.eq_1) := wp_of c88_10.eq_1
@[go_sem] theorem c88_11_wp : type_of% (wp_of c88_11.eq_1) := wp_of c88_11.eq_1
@[go_sem] theorem c88_12_wp : type_of% (wp_of c88_12.eq_1) := wp_of c88_12.eq_1
@[go_sem] theorem c88_13_wp : type_of% (wp_of c88_13.eq_1) := wp_of c88_13.eq_1
@[go_sem] theorem c88_14_wp : type_of% (wp_of c88_14.eq_1) := wp_of c88_14.eq_1
@[go_sem] theorem c88_15_wp : type_of% (wp_of c88_15.eq_1) := wp_of c88_15.eq_1
@[go_sem] theorem c88_16_wp : type_of% (wp_of c88_16.eq_1) := wp_of c88_16.eq_1
@[go_sem] theorem c88_17_wp : type_of% (wp_of c88_17.eq_1) := wp_of c88_17.eq_1
@[go_sem] theorem c88_18_wp : type_of% (wp_of c88_18.eq_1) := wp_of c88_18.eq_1
@[go_sem] theorem c88_19_wp : type_of% (wp_of c88_19.eq_1) := wp_of c88_19.eq_1
@[go_sem] theorem c88_20_wp : type_of% (wp_of c88_20.eq_1) := wp_of c88_20.eq_1
@[go_sem] theorem c88_21_wp : type_of% (wp_of c88_21.eq_1) := wp_of c88_21.eq_1
@[go_sem] theorem c88_22_wp : type_of% (wp_of c88_22.eq_1) := wp_of c88_22.eq_1
def c88 : AFn := ⟨39, [.t 2], c88_22⟩
set_option maxRecDepth 100000 in
theorem c88_ok : compF Tryz.prog Tryz.f88 = some c88 := by kernel_rfl
theorem a88 {args : List AV} {σ : ASt} {R : AV → ASt → Prop} (hl : args.length ≤ 39) (h : c88_22.wp Tryz.prog (RetQ [.t 2] R) (init args) σ) : ACalls Tryz.prog 88 args σ R := acalls_of Tryz.func88 c88_ok hl h
/-! 91: tabular/token.Errors -/
def c91_0 : ACode := .ops [
 ⟨some 0, none, .q (.mv (.v (.sl .full []))), []⟩]
def c91_1 : ACode := .ops [
 ⟨some 1, none, .q (.bsl 1 [(.v (.str [35, 68, 73, 86, 47, 48, 33])), (.v (.str [35, 78, 85, 77, 33])), (.v (.str [35, 86, 65, 76, 85, 69, 33])), (.v (.str [35, 82, 69, 70, 33])), (.v (.str [35, 78, 47, 65])), (.v (.str [35, 78, 65, 77, 69, 63])), (.v (.str [35, 67, 89, 67, 76, 69, 33]))]), []⟩,
 ⟨some 0, none, .q (.mv (.t 1)), []⟩]
def c91_2 : ACode := .seq c91_1 .ret
def c91_3 : ACode := .seq c91_0 c91_2
@[go_sem] theorem c91_0_wp : type_of% (wp_of c91_0.eq_1) := wp_of c91_0.eq_1
@[go_sem] theorem c91_1_wp : type_of% (wp_of c91_1.eq_1) := wp_of c91_1.eq_1
@[go_sem] theorem c91_2_wp : type_of% (wp_of c91_2.eq_1) := wp_of c91_2.eq_1
@[go_sem] theorem c91_3_wp : type_of% (wp_of c91_3.eq_1) := wp_of c91_3.eq_1
def c91 : AFn := ⟨2, [.t 0], c91_3⟩
set_option maxRecDepth 100000 in
theorem c91_ok : compF Tryz.prog Tryz.f91 = some c91 := by kernel_rfl
theorem a91 {args : List AV} {σ : ASt} {R : AV → ASt → Prop} (hl : args.length ≤ 2) (h : c91_3.wp Tryz.prog (RetQ [.t 0] R) (init args) σ) : ACalls Tryz.prog 91 args σ R := acalls_of Tryz.func91 c91_ok hl h
/-! 92: tabular/token.alike -/
def c92_0 : ACode := .ops [
 ⟨some 2, none, .q (.mv (.v (.str []))), []⟩]
def c92_1 : ACode := .ops [
 ⟨some 3, none, .q (.mv (.t 0)), []⟩]
def c92_2 : ACode := .ops [
 ⟨some 5, none, .q (.bin .eql (.t 3) (.v (.int .i32 8804))), []⟩,
 ⟨some 4, none, .q (.mv (.t 5)), []⟩]
def c92_3 : ACode := .ops [
 ⟨some 2, none, .q (.mv (.v (.str [60, 61]))), []⟩]
def c92_4 : ACode := .seq c92_3 .ret
def c92_5 : ACode := .ops [
 ⟨some 7, none, .q (.bin .eql (.t 3) (.v (.int .i32 8805))), []⟩,
 ⟨some 6, none, .q (.mv (.t 7)), []⟩]
def c92_6 : ACode := .ops [
 ⟨some 2, none, .q (.mv (.v (.str [62, 61]))), []⟩]
def c92_7 : ACode := .seq c92_6 .ret
def c92_8 : ACode := .ops [
 ⟨some 9, none, .q (.bin .eql (.t 3) (.v (.int .i32 8800))), []⟩,
 ⟨some 8, none, .q (.mv (.t 9)), []⟩]
def c92_9 : ACode := .ops [
 ⟨some 2, none, .q (.mv (.v (.str [60, 62]))), []⟩]
def c92_10 : ACode := .seq c92_9 .ret
def c92_11 : ACode := .ops [
 ⟨some 11, none, .q (.bin .eql (.t 3) (.v (.int .i32 215))), []⟩,
 ⟨some 10, none, .q (.mv (.t 11)), []⟩]
def c92_12 : ACode := .ops [
 ⟨some 2, none, .q (.mv (.v (.str [42]))), []⟩]
def c92_13 : ACode := .seq c92_12 .ret
def c92_14 : ACode := .ops [
 ⟨some 13, none, .q (.bin .eql (.t 3) (.v (.int .i32 247))), []⟩,
 ⟨some 12, none, .q (.mv (.t 13)), []⟩]
def c92_15 : ACode := .ops [
 ⟨some 2, none, .q (.mv (.v (.str [47]))), []⟩]
def c92_16 : ACode := .seq c92_15 .ret
def c92_17 : ACode := .ops [
 ⟨some 15, none, .q (.bin .eql (.t 3) (.v (.int .i32 8722))), []⟩,
 ⟨some 14, none, .q (.mv (.t 15)), []⟩]
def c92_18 : ACode := .ops [
 ⟨some 2, none, .q (.mv (.v (.str [45]))), []⟩]
def c92_19 : ACode := .seq c92_18 .ret
def c92_20 : ACode := .cond (.t 14) c92_19 .skip
def c92_21 : ACode := .seq c92_17 c92_20
def c92_22 : ACode := .cond (.t 12) c92_16 c92_21
def c92_23 : ACode := .seq c92_14 c92_22
def c92_24 : ACode := .cond (.t 10) c92_13 c92_23
def c92_25 : ACode := .seq c92_11 c92_24
def c92_26 : ACode := .cond (.t 8) c92_10 c92_25
def c92_27 : ACode := .seq c92_8 c92_26
def c92_28 : ACode := .cond (.t 6) c92_7 c92_27
def c92_29 : ACode := .seq c92_5 c92_28
def c92_30 : ACode := .cond (.t 4) c92_4 c92_29
def c92_31 : ACode := .seq c92_2 c92_30
def c92_32 : ACode := .block 0 c92_31
def c92_33 : ACode := .seq c92_1 c92_32
def c92_34 : ACode := .ops [
 ⟨some 2, none, .q (.mv (.v (.str []))), []⟩]
def c92_35 : ACode := .seq c92_34 .ret
def c92_36 : ACode := .seq c92_33 c92_35
def c92_37 : ACode := .seq c92_0 c92_36
@[go_sem] theorem c92_0_wp : type_of% (wp_of c92_0.eq_1) := wp_of c92_0.eq_1
@[go_sem] theorem c92_1_wp : type_of% (wp_of c92_1.eq_1) := wp_of c92_1.eq_1
@[go_sem] theorem c92_2_wp : type_of% (wp_of c92_2.eq_1) := wp_of c92_2.eq_1
@[go_sem] theorem c92_3_wp : type_of% (wp_of c92_3.eq_1) := wp_of c92_3.eq_1
@[go_sem] theorem c92_4_wp : type_of% (wp_of c92_4.eq_1) := wp_of c92_4.eq_1
@[go_sem] theorem c92_5_wp : type_of% (wp_of c92_5.eq_1) := wp_of c92_5.eq_1
@[go_sem] theorem c92_6_wp : type_of% (wp_of c92_6.eq_1) := wp_of c92_6.eq_1
@[go_sem] theorem c92_7_wp : type_of% (wp_of c92_7.eq_1) := wp_of c92_7.eq_1
@[go_sem] theorem c92_8_wp : type_of% (wp_of c92_8.eq_1) := wp_of c92_8.eq_1
@[go_sem] theorem c92_9_wp : type_of% (wp_of c92_9.eq_1) := wp_of c92_9.eq_1
@[go_sem] theorem c92_10_wp : type_of% (wp_of c92_10.eq_1) := wp_of c92_10.eq_1
@[go_sem] theorem c92_11_wp : type_of% (wp_of c92_11.eq_1) := wp_of c92_11.eq_1
@[go_sem] theorem c92_12_wp : type_of% (wp_of c92_12.eq_1) := wp_of c92_12.eq_1
@[go_sem] theorem c92_13_wp : type_of% (wp_of c92_13.eq_1) := wp_of c92_13.eq_1
@[go_sem] theorem c92_14_wp : type_of% (wp_of c92_14.eq_1) := wp_of c92_14.eq_1
@[go_sem] theorem c92_15_wp : type_of% (wp_of c92_15.eq_1) := wp_of c92_15.eq_1
@[go_sem] theorem c92_16_wp : type_of% (wp_of c92_16.eq_1) := wp_of c92_16.eq_1
@[go_sem] theorem c92_17_wp : type_of% (wp_of c92_17.eq_1) := wp_of c92_17.eq_1
@[go_sem] theorem c92_18_wp : type_of% (wp_of c92_18.eq_1) := wp_of c92_18.eq_1
@[go_sem] theorem c92_19_wp : type_of% (wp_of c92_19.eq_1) := wp_of c92_19.eq_1
@[go_sem] theorem c92_20_wp : type_of% (wp_of c92_20.eq_1) := wp_of c92_20.eq_1
@[go_sem] theorem c92_21_wp : type_of% (wp_of c92_21.eq_1) := wp_of c92_21.eq_1
@[go_sem] theorem c92_22_wp : type_of% (wp_of c92_22.eq_1) := wp_of c92_22.eq_1
@[go_sem] theorem c92_23_wp : type_of% (wp_of c92_23.eq_1) := wp_of c92_23.eq_1
@[go_sem] theorem c92_24_wp : type_of% (wp_of c92_24.eq_1) := wp_of c92_24.eq_1
@[go_sem] theorem c92_25_wp : type_of% (wp_of c92_25.eq_1) := wp_of c92_25.eq_1
@[go_sem] theorem c92_26_wp : type_of% (wp_of c92_26.eq_1) := wp_of c92_26.eq_1
@[go_sem] theorem c92_27_wp : type_of% (wp_of c92_27.eq_1) := wp_of c92_27.eq_1
@[go_sem] theorem c92_28_wp : type_of% (wp_of c92_28.eq_1) := wp_of c92_28.eq_1
@[go_sem] theorem c92_29_wp : type_of% (wp_of c92_29.eq_1) := wp_of c92_29.eq_1
@[go_sem] theorem c92_30_wp : type_of% (wp_of c92_30.eq_1) := wp_of c92_30.eq_1
@[go_sem] theorem c92_31_wp : type_of% (wp_of c92_31.eq_1) := wp_of c92_31.eq_1
@[go_sem] theorem c92_32_wp : type_of% (wp_of c92_32.eq_1) := wp_of c92_32.eq_1
@[go_sem] theorem c92_33_wp : type_of% (wp_of c92_33.eq_1) := wp_of c92_33.eq_1
@[go_sem] theorem c92_34_wp : type_of% (wp_of c92_34.eq_1) := wp_of c92_34.eq_1
@[go_sem] theorem c92_35_wp : type_of% (wp_of c92_35.eq_1) := wp_of c92_35.eq_1
@[go_sem] theorem c92_36_wp : type_of% (wp_of c92_36.eq_1) := wp_of c92_36.eq_1
@[go_sem] theorem c92_37_wp : type_of% (wp_of c92_37.eq_1) := wp_of c92_37.eq_1
def c92 : AFn := ⟨16, [.t 2], c92_37⟩
set_option maxRecDepth 100000 in
theorem c92_ok : compF Tryz.prog Tryz.f92 = some c92 := by kernel_rfl
theorem a92 {args : List AV} {σ : ASt} {R : AV → ASt → Prop} (hl : args.length ≤ 16) (h : c92_37.wp Tryz.prog (RetQ [.t 2] R) (init args) σ) : ACalls Tryz.prog 92 args σ R := acalls_of Tryz.func92 c92_ok hl h
/-! 108: tabular/token.digit -/
def c108_0 : ACode := .ops [
 ⟨some 2, none, .q (.mv (.v (.bool false))), []⟩]
def c108_1 : ACode := .ops [
 ⟨some 3, none, .q (.mv (.t 0)), []⟩,
 ⟨some 4, none, .q (.bin .geq (.t 3) (.v (.int .u8 48))), []⟩,
 ⟨some 5, none, .q (.mv (.t 4)), []⟩,
 ⟨some 6, some (5, true), .q (.mv (.t 0)), []⟩,
 ⟨some 7, some (5, true), .q (.bin .leq (.t 6) (.v (.int .u8 57))), []⟩,
 ⟨some 8, none, .q (.pick (.t 5) (.t 7) (.v (.bool false))), []⟩,
 ⟨some 2, none, .q (.mv (.t 8)), []⟩]
def c108_2 : ACode := .seq c108_1 .ret
def c108_3 : ACode := .seq c108_0 c108_2
@[go_sem] theorem c108_0_wp : type_of% (wp_of c108_0.eq_1) := wp_of c108_0.eq_1
@[go_sem] theorem c108_1_wp : type_of% (wp_of c108_1.eq_1) := wp_of c108_1.eq_1
@[go_sem] theorem c108_2_wp : type_of% (wp_of c108_2.eq_1) := wp_of c108_2.eq_1
@[go_sem] theorem c108_3_wp : type_of% (wp_of c108_3.eq_1) := wp_of c108_3.eq_1
def c108 : AFn := ⟨9, [.t 2], c108_3⟩
set_option maxRecDepth 100000 in
theorem c108_ok : compF Tryz.prog Tryz.f108 = some c108 := by kernel_rfl
theorem a108 {args : List AV} {σ : ASt} {R : AV → ASt → Prop} (hl : args.length ≤ 9) (h : c108_3.wp Tryz.prog (RetQ [.t 2] R) (init args) σ) : ACalls Tryz.prog 108 args σ R := acalls_of Tryz.func108 c108_ok hl h
end Go.A
