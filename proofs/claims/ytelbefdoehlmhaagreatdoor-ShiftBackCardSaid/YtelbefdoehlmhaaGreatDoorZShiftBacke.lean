/- Part 5 of what ShiftBack leans on: Shelf Wz Wa CodeGa Ga CodeGb Gb CodeGc Gc CodeGd Gd CodeH Tg. -/
import Derived.Shelf.Strings.Builder1
import Derived.Shelf.Strings.Builder2
import Derived.Shelf.Strings.Trim
import Derived.Shelf.Small.Utf8
import Derived.Shelf.Small.Strs
import Derived.Shelf.Small.Wraps
import Derived.Shelf.Strings.BuilderF
import Derived.Shelf.Strings.BuilderK
import Derived.Shelf.Strings.BuilderRune
import Derived.Shelf.Utf8.AppendRunePlain
import Derived.Shelf.Utf8.RuneCount
import Derived.Shelf.Strings.Builder2Cap
import Derived.Shelf.Strconv.Itoa0
import Derived.Shelf.Strconv.Itoa1
import Derived.Shelf.LaysM
import Derived.Shelf.Strconv.Itoa2
import Derived.Shelf.Strconv.Itoa3
import Derived.Shelf.Strings.Search1
import Derived.Shelf.Strings.Search2
import Derived.Shelf.Strings.Search3
import Derived.Shelf.Strings.Cut
import Derived.Shelf.Strings.Count
import Derived.Shelf.Strings.Shaped
import Derived.Shelf.Strings.Prefix
import Derived.Shelf.Strings.Split
import Derived.Shelf.Strings.Replace
import Derived.Shelf.Strings.SplitShaped
import Derived.Shelf.Strings.Runes
import Derived.Shelf.Strings.RuneCount
import Derived.Shelf.Strings.AsciiSet
import Derived.Shelf.Unicode.DecodeSlow
import Derived.Shelf.Unicode.DecodeAny
import Derived.Shelf.Strings.BuilderCap
import Derived.Test.YtelbefdoehlmhaaGreatDoorProg
import Derived.Lib.ItoaMem
import Derived.KernelRfl
import Derived.Test.YtelbefdoehlmhaaGreatDoorZShiftBackd
set_option linter.defProp false
set_option linter.unusedSimpArgs false
set_option linter.unusedVariables false
set_option maxRecDepth 100000
namespace Go.Proofs
open Go.Shelf
def Tryz.lays169_ren : Go.Shelf.Ren := ⟨fun | 169 => 53 | n => n, fun | 70 => 103 | 9 => 9 | 0 => 0 | 72 => 106 | 37 => 104 | 127 => 132 | 3 => 3 | 5 => 5 | n => n, fun | n => n⟩
theorem Tryz.lays169 : Go.Proofs.Lays.n169 Tryz.prog Tryz.lays169_ren := {
 mixed := by kernel_rfl
 f169 := Tryz.func53.trans (congrArg some (by kernel_rfl))
 t0 := Tryz.underlying0
 a0 := Tryz.isAgg0
 z0 := Tryz.sizeOf0
 v0 := Tryz.zeroValue0
 t3 := Tryz.underlying3
 a3 := Tryz.isAgg3
 z3 := Tryz.sizeOf3
 v3 := Tryz.zeroValue3
 t9 := Tryz.underlying9
 a9 := Tryz.isAgg9
 z9 := Tryz.sizeOf9
 v9 := Tryz.zeroValue9
 t37 := Tryz.underlying104
 a37 := Tryz.isAgg104
 z37 := Tryz.sizeOf104
 v37 := Tryz.zeroValue104
 t70 := Tryz.underlying103
 a70 := Tryz.isAgg103
 z70 := Tryz.sizeOf103
 v70 := Tryz.zeroValue103
 t72 := Tryz.underlying106
 a72 := Tryz.isAgg106
 z72 := Tryz.sizeOf106
 v72 := Tryz.zeroValue106
 t127 := Tryz.underlying132
 a127 := Tryz.isAgg132
 z127 := Tryz.sizeOf132
 v127 := Tryz.zeroValue132 }
theorem Tryz.Builder_Extra_169 : Builder.Extra Tryz.prog Tryz.lays169_ren := {
 sizeBuilder := by kernel_rfl
 liesBuilder := by kernel_rfl
 t5 := Tryz.underlying5
 a5 := Tryz.isAgg5
 z5 := Tryz.sizeOf5
 v5 := Tryz.zeroValue5
 infoByte := by kernel_rfl
 cellsByte := by kernel_rfl
 sizeByte := by kernel_rfl
 neB5 := by decide }
def Tryz.lays162_ren : Go.Shelf.Ren := ⟨fun | 162 => 100 | 232 => 119 | 227 => 120 | 234 => 121 | 236 => 122 | 228 => 137 | 271 => 138 | 151 => 139 | 120 => 156 | 197 => 84 | 152 => 157 | 260 => 106 | 137 => 164 | 119 => 165 | 224 => 148 | 225 => 147 | 217 => 146 | 266 => 160 | n => n, fun | 9 => 9 | 4 => 4 | 3 => 3 | 5 => 5 | 117 => 160 | 116 => 159 | 0 => 0 | 124 => 163 | 21 => 21 | 105 => 116 | 46 => 166 | 119 => 165 | 139 => 169 | 138 => 168 | n => n, fun | 3 => 1 | 4 => 2 | n => n⟩
theorem Tryz.lays162 : Go.Proofs.Lays.n162 Tryz.prog Tryz.lays162_ren := {
 mixed := by kernel_rfl
 f119 := Tryz.func165.trans (congrArg some (by kernel_rfl))
 f120 := Tryz.func156.trans (congrArg some (by kernel_rfl))
 f137 := Tryz.func164.trans (congrArg some (by kernel_rfl))
 f151 := Tryz.func139.trans (congrArg some (by kernel_rfl))
 f152 := Tryz.func157.trans (congrArg some (by kernel_rfl))
 f162 := Tryz.func100.trans (congrArg some (by kernel_rfl))
 f197 := Tryz.func84.trans (congrArg some (by kernel_rfl))
 f217 := Tryz.func146.trans (congrArg some (by kernel_rfl))
 f224 := Tryz.func148.trans (congrArg some (by kernel_rfl))
 f225 := Tryz.func147.trans (congrArg some (by kernel_rfl))
 f227 := Tryz.func120.trans (congrArg some (by kernel_rfl))
 f228 := Tryz.func137.trans (congrArg some (by kernel_rfl))
 f232 := Tryz.func119.trans (congrArg some (by kernel_rfl))
 f234 := Tryz.func121.trans (congrArg some (by kernel_rfl))
 f236 := Tryz.func122.trans (congrArg some (by kernel_rfl))
 f260 := Tryz.func106.trans (congrArg some (by kernel_rfl))
 f266 := Tryz.func160.trans (congrArg some (by kernel_rfl))
 f271 := Tryz.func138.trans (congrArg some (by kernel_rfl))
 t0 := Tryz.underlying0
 a0 := Tryz.isAgg0
 z0 := Tryz.sizeOf0
 v0 := Tryz.zeroValue0
 t3 := Tryz.underlying3
 a3 := Tryz.isAgg3
 z3 := Tryz.sizeOf3
 v3 := Tryz.zeroValue3
 t4 := Tryz.underlying4
 a4 := Tryz.isAgg4
 z4 := Tryz.sizeOf4
 v4 := Tryz.zeroValue4
 t5 := Tryz.underlying5
 a5 := Tryz.isAgg5
 z5 := Tryz.sizeOf5
 v5 := Tryz.zeroValue5
 t9 := Tryz.underlying9
 a9 := Tryz.isAgg9
 z9 := Tryz.sizeOf9
 v9 := Tryz.zeroValue9
 t21 := Tryz.underlying21
 a21 := Tryz.isAgg21
 z21 := Tryz.sizeOf21
 v21 := Tryz.zeroValue21
 t46 := Tryz.underlying166
 a46 := Tryz.isAgg166
 z46 := Tryz.sizeOf166
 v46 := Tryz.zeroValue166
 t105 := Tryz.underlying116
 a105 := Tryz.isAgg116
 z105 := Tryz.sizeOf116
 v105 := Tryz.zeroValue116
 t116 := Tryz.underlying159
 a116 := Tryz.isAgg159
 z116 := Tryz.sizeOf159
 t117 := Tryz.underlying160
 a117 := Tryz.isAgg160
 z117 := Tryz.sizeOf160
 v117 := Tryz.zeroValue160
 t119 := Tryz.underlying165
 a119 := Tryz.isAgg165
 z119 := Tryz.sizeOf165
 t124 := Tryz.underlying163
 a124 := Tryz.isAgg163
 z124 := Tryz.sizeOf163
 v124 := Tryz.zeroValue163
 t138 := Tryz.underlying168
 a138 := Tryz.isAgg168
 z138 := Tryz.sizeOf168
 v138 := Tryz.zeroValue168
 t139 := Tryz.underlying169
 a139 := Tryz.isAgg169
 z139 := Tryz.sizeOf169
 v139 := Tryz.zeroValue169
 g3 := by kernel_rfl
 g4 := by kernel_rfl }
open Go.RowKit in
theorem Tryz.strings_TrimRight_one (s : ByteArray) (c : UInt8) (hc : c.toNat < 128) (w : World) (hs : s.size ≤ 9223372036854775807) :
  Calls Tryz.prog 100 #[.string s, .string ⟨#[c]⟩] w fun e w' => e = .returned (.string ⟨(Lib.trimRightB s.data.toList c).toArray⟩) ∧ w' = w := Any.strings_TrimRight_one Tryz.lays162 s c hc w hs
def Tryz.lays118_ren : Go.Shelf.Ren := ⟨fun | 118 => 90 | n => n, fun | 21 => 21 | 3 => 3 | 4 => 4 | n => n, fun | n => n⟩
theorem Tryz.lays118 : Go.Proofs.Lays.n118 Tryz.prog Tryz.lays118_ren := {
 mixed := by kernel_rfl
 f118 := Tryz.func90.trans (congrArg some (by kernel_rfl))
 t3 := Tryz.underlying3
 a3 := Tryz.isAgg3
 z3 := Tryz.sizeOf3
 v3 := Tryz.zeroValue3
 t4 := Tryz.underlying4
 a4 := Tryz.isAgg4
 z4 := Tryz.sizeOf4
 v4 := Tryz.zeroValue4
 t21 := Tryz.underlying21
 a21 := Tryz.isAgg21
 z21 := Tryz.sizeOf21
 v21 := Tryz.zeroValue21 }
theorem Tryz.utf8_RuneLen (r : Int) (w : World) :
  Calls Tryz.prog 90 #[.int .i32 r] w fun e w' => e = .returned (.int .i64 (Lib.runeLen r)) ∧ w' = w := Any.utf8_RuneLen Tryz.lays118 r w
def Tryz.lays210_ren : Go.Shelf.Ren := ⟨fun | 210 => 150 | 206 => 111 | n => n, fun | 9 => 9 | 4 => 4 | 3 => 3 | n => n, fun | n => n⟩
def Tryz.lays103_ren : Go.Shelf.Ren := ⟨fun | 103 => 129 | 210 => 150 | 206 => 111 | n => n, fun | 9 => 9 | 4 => 4 | 24 => 173 | 3 => 3 | n => n, fun | n => n⟩
theorem Tryz.lays103 : Go.Proofs.Lays.n103 Tryz.prog Tryz.lays103_ren := {
 mixed := by kernel_rfl
 f103 := Tryz.func129.trans (congrArg some (by kernel_rfl))
 f206 := Tryz.func111.trans (congrArg some (by kernel_rfl))
 f210 := Tryz.func150.trans (congrArg some (by kernel_rfl))
 t3 := Tryz.underlying3
 a3 := Tryz.isAgg3
 z3 := Tryz.sizeOf3
 v3 := Tryz.zeroValue3
 t4 := Tryz.underlying4
 a4 := Tryz.isAgg4
 z4 := Tryz.sizeOf4
 v4 := Tryz.zeroValue4
 t9 := Tryz.underlying9
 a9 := Tryz.isAgg9
 z9 := Tryz.sizeOf9
 v9 := Tryz.zeroValue9
 t24 := Tryz.underlying173
 a24 := Tryz.isAgg173
 z24 := Tryz.sizeOf173
 v24 := Tryz.zeroValue173 }
open Go.RowKit in
theorem Tryz.strings_CutPrefix (s p : ByteArray) (w : World) :
  Calls Tryz.prog 129 #[.string s, .string p] w fun e w' => e = .returned (.tuple #[.string ⟨(Lib.trimPrefix s.data.toList p.data.toList).toArray⟩, .bool (Lib.hasPrefix s.data.toList p.data.toList)]) ∧ w' = w := Any.strings_CutPrefix Tryz.lays103 s p w
def Tryz.lays195_ren : Go.Shelf.Ren := ⟨fun | 195 => 67 | n => n, fun | 9 => 9 | 3 => 3 | 0 => 0 | 4 => 4 | n => n, fun | n => n⟩
theorem Tryz.lays195 : Go.Proofs.Lays.n195 Tryz.prog Tryz.lays195_ren := {
 mixed := by kernel_rfl
 f195 := Tryz.func67.trans (congrArg some (by kernel_rfl))
 t0 := Tryz.underlying0
 a0 := Tryz.isAgg0
 z0 := Tryz.sizeOf0
 v0 := Tryz.zeroValue0
 t3 := Tryz.underlying3
 a3 := Tryz.isAgg3
 z3 := Tryz.sizeOf3
 v3 := Tryz.zeroValue3
 t4 := Tryz.underlying4
 a4 := Tryz.isAgg4
 z4 := Tryz.sizeOf4
 v4 := Tryz.zeroValue4
 t9 := Tryz.underlying9
 a9 := Tryz.isAgg9
 z9 := Tryz.sizeOf9
 v9 := Tryz.zeroValue9 }
open Go.RowKit in
theorem Tryz.utf8_RuneCountInString (s : ByteArray) (w : World) (hs : s.size < 9223372036854775807) :
  Calls Tryz.prog 67 #[.string s] w fun e w' => e = .returned (.int .i64 (Lib.runeCount s)) ∧ ∃ pos, w' = w.iter s pos := Any.utf8_RuneCountInString Tryz.lays195 s w hs
def Tryz.lays283_ren : Go.Shelf.Ren := ⟨fun | 283 => 133 | n => n, fun | 3 => 3 | 9 => 9 | 4 => 4 | n => n, fun | n => n⟩
theorem Tryz.lays283 : Go.Proofs.Lays.n283 Tryz.prog Tryz.lays283_ren := {
 mixed := by kernel_rfl
 f283 := Tryz.func133.trans (congrArg some (by kernel_rfl))
 t3 := Tryz.underlying3
 a3 := Tryz.isAgg3
 z3 := Tryz.sizeOf3
 v3 := Tryz.zeroValue3
 t4 := Tryz.underlying4
 a4 := Tryz.isAgg4
 z4 := Tryz.sizeOf4
 v4 := Tryz.zeroValue4
 t9 := Tryz.underlying9
 a9 := Tryz.isAgg9
 z9 := Tryz.sizeOf9
 v9 := Tryz.zeroValue9 }
open Go.Lib in
theorem Tryz.internal_strconv_small (i : Nat) (h : i < 100) (w : World) :
  Calls Tryz.prog 133 #[.int .i64 i] w fun e w' => e = .returned (.string ⟨(Lib.decDigits i).toArray⟩) ∧ w' = w := Any.internal_strconv_small Tryz.lays283 i h w
def Tryz.laysM284_ren : Go.Shelf.Ren := ⟨fun | 284 => 134 | 129 => 152 | 317 => 151 | 318 => 153 | n => n, fun | 53 => 140 | 3 => 3 | 212 => 190 | 0 => 0 | 4 => 4 | 46 => 166 | 5 => 5 | 9 => 9 | n => n, fun | 17 => 4 | n => n⟩
theorem Tryz.laysM284 : Go.Proofs.LaysM.n284 Tryz.prog Tryz.laysM284_ren := {
 mixed := by kernel_rfl
 f129 := Tryz.func152.trans (congrArg some (by kernel_rfl))
 f284 := Tryz.func134.trans (congrArg some (by kernel_rfl))
 f317 := Tryz.func151.trans (congrArg some (by kernel_rfl))
 f318 := Tryz.func153.trans (congrArg some (by kernel_rfl))
 t0 := Tryz.underlying0
 a0 := Tryz.isAgg0
 z0 := Tryz.sizeOf0
 v0 := Tryz.zeroValue0
 t3 := Tryz.underlying3
 a3 := Tryz.isAgg3
 z3 := Tryz.sizeOf3
 v3 := Tryz.zeroValue3
 t4 := Tryz.underlying4
 a4 := Tryz.isAgg4
 z4 := Tryz.sizeOf4
 v4 := Tryz.zeroValue4
 t5 := Tryz.underlying5
 a5 := Tryz.isAgg5
 z5 := Tryz.sizeOf5
 v5 := Tryz.zeroValue5
 t9 := Tryz.underlying9
 a9 := Tryz.isAgg9
 z9 := Tryz.sizeOf9
 v9 := Tryz.zeroValue9
 t46 := Tryz.underlying166
 a46 := Tryz.isAgg166
 z46 := Tryz.sizeOf166
 v46 := Tryz.zeroValue166
 t53 := Tryz.underlying140
 a53 := Tryz.isAgg140
 z53 := Tryz.sizeOf140
 v53 := Tryz.zeroValue140
 t212 := Tryz.underlying190
 a212 := Tryz.isAgg190
 z212 := Tryz.sizeOf190
 v212 := Tryz.zeroValue190
 g17 := by kernel_rfl
 i0 := by kernel_rfl
 i3 := by kernel_rfl
 i4 := by kernel_rfl
 i5 := by kernel_rfl
 i9 := by kernel_rfl
 i46 := by kernel_rfl
 i53 := by kernel_rfl
 i212 := by kernel_rfl
 m17 := by kernel_rfl }
open Go.Lib in
theorem Tryz.internal_strconv_numDigits (u : Nat) (h1 : 1 ≤ u) (h2 : u < 18446744073709551616) (w : World) (htab : Lib.TabIs Tryz.prog w "internal/strconv.uint64pow10" .u64 Lib.pow10Tab) :
  Calls Tryz.prog 134 #[.int .u64 u] w fun e w' => e = .returned (.int .i64 (Lib.nDigits u)) ∧ w' = w := Any.internal_strconv_numDigits Tryz.laysM284 u h1 h2 w htab
def Tryz.lays285_ren : Go.Shelf.Ren := ⟨fun | 285 => 135 | n => n, fun | 37 => 104 | 53 => 140 | 3 => 3 | 4 => 4 | 51 => 172 | 9 => 9 | 5 => 5 | 0 => 0 | n => n, fun | n => n⟩
theorem Tryz.lays285 : Go.Proofs.Lays.n285 Tryz.prog Tryz.lays285_ren := {
 mixed := by kernel_rfl
 f285 := Tryz.func135.trans (congrArg some (by kernel_rfl))
 t0 := Tryz.underlying0
 a0 := Tryz.isAgg0
 z0 := Tryz.sizeOf0
 v0 := Tryz.zeroValue0
 t3 := Tryz.underlying3
 a3 := Tryz.isAgg3
 z3 := Tryz.sizeOf3
 v3 := Tryz.zeroValue3
 t4 := Tryz.underlying4
 a4 := Tryz.isAgg4
 z4 := Tryz.sizeOf4
 v4 := Tryz.zeroValue4
 t5 := Tryz.underlying5
 a5 := Tryz.isAgg5
 z5 := Tryz.sizeOf5
 v5 := Tryz.zeroValue5
 t9 := Tryz.underlying9
 a9 := Tryz.isAgg9
 z9 := Tryz.sizeOf9
 v9 := Tryz.zeroValue9
 t37 := Tryz.underlying104
 a37 := Tryz.isAgg104
 z37 := Tryz.sizeOf104
 v37 := Tryz.zeroValue104
 t51 := Tryz.underlying172
 a51 := Tryz.isAgg172
 z51 := Tryz.sizeOf172
 v51 := Tryz.zeroValue172
 t53 := Tryz.underlying140
 a53 := Tryz.isAgg140
 z53 := Tryz.sizeOf140
 v53 := Tryz.zeroValue140 }
open Go.RowKit Go.Sort Go.Lib in
theorem Tryz.internal_strconv_formatBase10 (blk off cap : Nat) (u : Nat) (d : Array UInt8) (w : World) (hH : Holds (fun (b : UInt8) => Value.int .u8 (b.toNat : Int)) w blk off d) (hu : u < 10 ^ d.size) (hu64 : u < 18446744073709551616) (hsz : d.size < 4611686018427387904) :
  Calls Tryz.prog 135 #[.slice (some ⟨blk, off, none⟩) d.size cap, .int .u64 u] w fun e w' =>
   e = .returned (.tuple #[]) ∧ ∃ (n v' : Nat) (dk : Array UInt8), w' = (putRow (fun (b : UInt8) => Value.int .u8 (b.toNat : Int)) w blk off dk).drewN n ∧ FmtInv d.size u 0 v' dk := Any.internal_strconv_formatBase10 Tryz.lays285 blk off cap u d w hH hu hu64 hsz
def Tryz.laysM246_ren : Go.Shelf.Ren := ⟨fun | 246 => 142 | 283 => 133 | 284 => 134 | 285 => 135 | 286 => 136 | 129 => 152 | 317 => 151 | 318 => 153 | 319 => 154 | 320 => 155 | 337 => 162 | 338 => 163 | n => n, fun | 2 => 2 | 3 => 3 | 9 => 9 | 4 => 4 | 171 => 178 | 0 => 0 | 53 => 140 | 37 => 104 | 5 => 5 | 173 => 181 | 212 => 190 | 51 => 172 | 20 => 20 | 213 => 191 | 46 => 166 | 232 => 199 | 233 => 200 | n => n, fun | 17 => 4 | 18 => 5 | 19 => 6 | n => n⟩
def Tryz.laysM243_ren : Go.Shelf.Ren := ⟨fun | 243 => 124 | 246 => 142 | 283 => 133 | 284 => 134 | 285 => 135 | 286 => 136 | 129 => 152 | 317 => 151 | 318 => 153 | 319 => 154 | 320 => 155 | 337 => 162 | 338 => 163 | n => n, fun | 3 => 3 | 9 => 9 | 2 => 2 | 4 => 4 | 171 => 178 | 0 => 0 | 53 => 140 | 37 => 104 | 5 => 5 | 173 => 181 | 212 => 190 | 51 => 172 | 20 => 20 | 213 => 191 | 46 => 166 | 232 => 199 | 233 => 200 | n => n, fun | 17 => 4 | 18 => 5 | 19 => 6 | n => n⟩
def Tryz.laysM171_ren : Go.Shelf.Ren := ⟨fun | 171 => 105 | 243 => 124 | 246 => 142 | 283 => 133 | 284 => 134 | 285 => 135 | 286 => 136 | 129 => 152 | 317 => 151 | 318 => 153 | 319 => 154 | 320 => 155 | 337 => 162 | 338 => 163 | n => n, fun | 3 => 3 | 9 => 9 | 2 => 2 | 4 => 4 | 171 => 178 | 0 => 0 | 53 => 140 | 37 => 104 | 5 => 5 | 173 => 181 | 212 => 190 | 51 => 172 | 20 => 20 | 213 => 191 | 46 => 166 | 232 => 199 | 233 => 200 | n => n, fun | 17 => 4 | 18 => 5 | 19 => 6 | n => n⟩
theorem Tryz.laysM171 : Go.Proofs.LaysM.n171 Tryz.prog Tryz.laysM171_ren := {
 mixed := by kernel_rfl
 f129 := Tryz.func152.trans (congrArg some (by kernel_rfl))
 f171 := Tryz.func105.trans (congrArg some (by kernel_rfl))
 f243 := Tryz.func124.trans (congrArg some (by kernel_rfl))
 f246 := Tryz.func142.trans (congrArg some (by kernel_rfl))
 f283 := Tryz.func133.trans (congrArg some (by kernel_rfl))
 f284 := Tryz.func134.trans (congrArg some (by kernel_rfl))
 f285 := Tryz.func135.trans (congrArg some (by kernel_rfl))
 f286 := Tryz.func136.trans (congrArg some (by kernel_rfl))
 f317 := Tryz.func151.trans (congrArg some (by kernel_rfl))
 f318 := Tryz.func153.trans (congrArg some (by kernel_rfl))
 f319 := Tryz.func154.trans (congrArg some (by kernel_rfl))
 f320 := Tryz.func155.trans (congrArg some (by kernel_rfl))
 f337 := Tryz.func162.trans (congrArg some (by kernel_rfl))
 f338 := Tryz.func163.trans (congrArg some (by kernel_rfl))
 t0 := Tryz.underlying0
 a0 := Tryz.isAgg0
 z0 := Tryz.sizeOf0
 v0 := Tryz.zeroValue0
 t2 := Tryz.underlying2
 a2 := Tryz.isAgg2
 z2 := Tryz.sizeOf2
 v2 := Tryz.zeroValue2
 t3 := Tryz.underlying3
 a3 := Tryz.isAgg3
 z3 := Tryz.sizeOf3
 v3 := Tryz.zeroValue3
 t4 := Tryz.underlying4
 a4 := Tryz.isAgg4
 z4 := Tryz.sizeOf4
 v4 := Tryz.zeroValue4
 t5 := Tryz.underlying5
 a5 := Tryz.isAgg5
 z5 := Tryz.sizeOf5
 v5 := Tryz.zeroValue5
 t9 := Tryz.underlying9
 a9 := Tryz.isAgg9
 z9 := Tryz.sizeOf9
 v9 := Tryz.zeroValue9
 t20 := Tryz.underlying20
 a20 := Tryz.isAgg20
 z20 := Tryz.sizeOf20
 v20 := Tryz.zeroValue20
 t37 := Tryz.underlying104
 a37 := Tryz.isAgg104
 z37 := Tryz.sizeOf104
 v37 := Tryz.zeroValue104
 t46 := Tryz.underlying166
 a46 := Tryz.isAgg166
 z46 := Tryz.sizeOf166
 v46 := Tryz.zeroValue166
 t51 := Tryz.underlying172
 a51 := Tryz.isAgg172
 z51 := Tryz.sizeOf172
 v51 := Tryz.zeroValue172
 t53 := Tryz.underlying140
 a53 := Tryz.isAgg140
 z53 := Tryz.sizeOf140
 v53 := Tryz.zeroValue140
 t171 := Tryz.underlying178
 a171 := Tryz.isAgg178
 z171 := Tryz.sizeOf178
 v171 := Tryz.zeroValue178
 t173 := Tryz.underlying181
 a173 := Tryz.isAgg181
 z173 := Tryz.sizeOf181
 v173 := Tryz.zeroValue181
 t212 := Tryz.underlying190
 a212 := Tryz.isAgg190
 z212 := Tryz.sizeOf190
 v212 := Tryz.zeroValue190
 t213 := Tryz.underlying191
 a213 := Tryz.isAgg191
 z213 := Tryz.sizeOf191
 t232 := Tryz.underlying199
 a232 := Tryz.isAgg199
 z232 := Tryz.sizeOf199
 v232 := Tryz.zeroValue199
 t233 := Tryz.underlying200
 a233 := Tryz.isAgg200
 z233 := Tryz.sizeOf200
 v233 := Tryz.zeroValue200
 g17 := by kernel_rfl
 g18 := by kernel_rfl
 g19 := by kernel_rfl
 i0 := by kernel_rfl
 i2 := by kernel_rfl
 i3 := by kernel_rfl
 i4 := by kernel_rfl
 i5 := by kernel_rfl
 i9 := by kernel_rfl
 i20 := by kernel_rfl
 i37 := by kernel_rfl
 i46 := by kernel_rfl
 i51 := by kernel_rfl
 i53 := by kernel_rfl
 i171 := by kernel_rfl
 i173 := by kernel_rfl
 i212 := by kernel_rfl
 i232 := by kernel_rfl
 i233 := by kernel_rfl
 m17 := by kernel_rfl
 m18 := by kernel_rfl
 m19 := by kernel_rfl }
open Go.RowKit Go.Sort Go.Lib in
theorem Tryz.strconv_Itoa (n : Int) (h0 : -9223372036854775808 ≤ n) (h1 : n ≤ 9223372036854775807) (w : World) (htab : Lib.TabIs Tryz.prog w "internal/strconv.uint64pow10" .u64 Lib.pow10Tab) :
  Calls Tryz.prog 105 #[.int .i64 n] w fun e w' => e = .returned (.string ⟨(Lib.itoa n).toArray⟩) ∧ ∃ k os, w' = grow (w.drewN k) os := Any.strconv_Itoa Tryz.laysM171 n h0 h1 w htab
def Tryz.lays219_ren : Go.Shelf.Ren := ⟨fun | 219 => 128 | 217 => 146 | 225 => 147 | 224 => 148 | 267 => 149 | 266 => 160 | 314 => 161 | n => n, fun | 9 => 9 | 3 => 3 | 4 => 4 | 5 => 5 | 46 => 166 | 146 => 194 | 51 => 172 | n => n, fun | 1 => 3 | n => n⟩
theorem Tryz.lays219 : Go.Proofs.Lays.n219 Tryz.prog Tryz.lays219_ren := {
 mixed := by kernel_rfl
 f217 := Tryz.func146.trans (congrArg some (by kernel_rfl))
 f219 := Tryz.func128.trans (congrArg some (by kernel_rfl))
 f224 := Tryz.func148.trans (congrArg some (by kernel_rfl))
 f225 := Tryz.func147.trans (congrArg some (by kernel_rfl))
 f266 := Tryz.func160.trans (congrArg some (by kernel_rfl))
 f267 := Tryz.func149.trans (congrArg some (by kernel_rfl))
 f314 := Tryz.func161.trans (congrArg some (by kernel_rfl))
 t3 := Tryz.underlying3
 a3 := Tryz.isAgg3
 z3 := Tryz.sizeOf3
 v3 := Tryz.zeroValue3
 t4 := Tryz.underlying4
 a4 := Tryz.isAgg4
 z4 := Tryz.sizeOf4
 v4 := Tryz.zeroValue4
 t5 := Tryz.underlying5
 a5 := Tryz.isAgg5
 z5 := Tryz.sizeOf5
 v5 := Tryz.zeroValue5
 t9 := Tryz.underlying9
 a9 := Tryz.isAgg9
 z9 := Tryz.sizeOf9
 v9 := Tryz.zeroValue9
 t46 := Tryz.underlying166
 a46 := Tryz.isAgg166
 z46 := Tryz.sizeOf166
 v46 := Tryz.zeroValue166
 t51 := Tryz.underlying172
 a51 := Tryz.isAgg172
 z51 := Tryz.sizeOf172
 v51 := Tryz.zeroValue172
 t146 := Tryz.underlying194
 a146 := Tryz.isAgg194
 z146 := Tryz.sizeOf194
 v146 := Tryz.zeroValue194
 g1 := by kernel_rfl }
open Go.RowKit Go.Lib in
theorem Tryz.stringslite_Index_one (s : ByteArray) (c : UInt8) (w : World) :
  Calls Tryz.prog 128 #[.string s, .string ⟨#[c]⟩] w fun e w' => e = .returned (.int .i64 (Lib.indexByte s.data.toList c)) ∧ w' = w := Any.stringslite_Index_one Tryz.lays219 s c w
def Tryz.lays144_ren : Go.Shelf.Ren := ⟨fun | 144 => 94 | 143 => 112 | 219 => 128 | 217 => 146 | 225 => 147 | 224 => 148 | 267 => 149 | 266 => 160 | 314 => 161 | n => n, fun | 9 => 9 | 4 => 4 | 3 => 3 | 5 => 5 | 46 => 166 | 146 => 194 | 51 => 172 | n => n, fun | 1 => 3 | n => n⟩
theorem Tryz.lays144 : Go.Proofs.Lays.n144 Tryz.prog Tryz.lays144_ren := {
 mixed := by kernel_rfl
 f143 := Tryz.func112.trans (congrArg some (by kernel_rfl))
 f144 := Tryz.func94.trans (congrArg some (by kernel_rfl))
 f217 := Tryz.func146.trans (congrArg some (by kernel_rfl))
 f219 := Tryz.func128.trans (congrArg some (by kernel_rfl))
 f224 := Tryz.func148.trans (congrArg some (by kernel_rfl))
 f225 := Tryz.func147.trans (congrArg some (by kernel_rfl))
 f266 := Tryz.func160.trans (congrArg some (by kernel_rfl))
 f267 := Tryz.func149.trans (congrArg some (by kernel_rfl))
 f314 := Tryz.func161.trans (congrArg some (by kernel_rfl))
 t3 := Tryz.underlying3
 a3 := Tryz.isAgg3
 z3 := Tryz.sizeOf3
 v3 := Tryz.zeroValue3
 t4 := Tryz.underlying4
 a4 := Tryz.isAgg4
 z4 := Tryz.sizeOf4
 v4 := Tryz.zeroValue4
 t5 := Tryz.underlying5
 a5 := Tryz.isAgg5
 z5 := Tryz.sizeOf5
 v5 := Tryz.zeroValue5
 t9 := Tryz.underlying9
 a9 := Tryz.isAgg9
 z9 := Tryz.sizeOf9
 v9 := Tryz.zeroValue9
 t46 := Tryz.underlying166
 a46 := Tryz.isAgg166
 z46 := Tryz.sizeOf166
 v46 := Tryz.zeroValue166
 t51 := Tryz.underlying172
 a51 := Tryz.isAgg172
 z51 := Tryz.sizeOf172
 v51 := Tryz.zeroValue172
 t146 := Tryz.underlying194
 a146 := Tryz.isAgg194
 z146 := Tryz.sizeOf194
 v146 := Tryz.zeroValue194
 g1 := by kernel_rfl }
open Go.RowKit Go.Lib in
theorem Tryz.strings_Contains_one (s : ByteArray) (c : UInt8) (w : World) :
  Calls Tryz.prog 94 #[.string s, .string ⟨#[c]⟩] w fun e w' => e = .returned (.bool (decide (0 ≤ Lib.indexByte s.data.toList c))) ∧ w' = w := Any.strings_Contains_one Tryz.lays144 s c w
def Tryz.lays99_ren : Go.Shelf.Ren := ⟨fun | 99 => 93 | 206 => 111 | n => n, fun | 9 => 9 | 4 => 4 | 3 => 3 | n => n, fun | n => n⟩
theorem Tryz.lays99 : Go.Proofs.Lays.n99 Tryz.prog Tryz.lays99_ren := {
 mixed := by kernel_rfl
 f99 := Tryz.func93.trans (congrArg some (by kernel_rfl))
 f206 := Tryz.func111.trans (congrArg some (by kernel_rfl))
 t3 := Tryz.underlying3
 a3 := Tryz.isAgg3
 z3 := Tryz.sizeOf3
 v3 := Tryz.zeroValue3
 t4 := Tryz.underlying4
 a4 := Tryz.isAgg4
 z4 := Tryz.sizeOf4
 v4 := Tryz.zeroValue4
 t9 := Tryz.underlying9
 a9 := Tryz.isAgg9
 z9 := Tryz.sizeOf9
 v9 := Tryz.zeroValue9 }
open Go.RowKit Go.Lib in
theorem Tryz.strings_HasPrefix (s p : ByteArray) (w : World) :
  Calls Tryz.prog 93 #[.string s, .string p] w fun e w' => e = .returned (.bool (Lib.hasPrefix s.data.toList p.data.toList)) ∧ w' = w := Any.strings_HasPrefix Tryz.lays99 s p w
def Tryz.lays154_ren : Go.Shelf.Ren := ⟨fun | 154 => 123 | 138 => 140 | 165 => 141 | 143 => 112 | 166 => 72 | 197 => 84 | 169 => 53 | 195 => 67 | 218 => 158 | 240 => 97 | 241 => 159 | 219 => 128 | 260 => 106 | 276 => 117 | 277 => 166 | 217 => 146 | 225 => 147 | 224 => 148 | 267 => 149 | 266 => 160 | 314 => 161 | n => n, fun | 9 => 9 | 3 => 3 | 4 => 4 | 72 => 106 | 0 => 0 | 76 => 125 | 105 => 116 | 21 => 21 | 5 => 5 | 70 => 103 | 20 => 20 | 37 => 104 | 75 => 124 | 127 => 132 | 164 => 155 | 46 => 166 | 119 => 165 | 139 => 169 | 138 => 168 | 146 => 194 | 51 => 172 | 80 => 108 | n => n, fun | 1 => 3 | 3 => 1 | 4 => 2 | n => n⟩
def Tryz.lays155_ren : Go.Shelf.Ren := ⟨fun | 155 => 101 | 154 => 123 | 138 => 140 | 165 => 141 | 143 => 112 | 166 => 72 | 197 => 84 | 169 => 53 | 195 => 67 | 218 => 158 | 240 => 97 | 241 => 159 | 219 => 128 | 260 => 106 | 276 => 117 | 277 => 166 | 217 => 146 | 225 => 147 | 224 => 148 | 267 => 149 | 266 => 160 | 314 => 161 | n => n, fun | 9 => 9 | 3 => 3 | 4 => 4 | 72 => 106 | 0 => 0 | 76 => 125 | 105 => 116 | 21 => 21 | 5 => 5 | 70 => 103 | 20 => 20 | 37 => 104 | 75 => 124 | 127 => 132 | 164 => 155 | 46 => 166 | 119 => 165 | 139 => 169 | 138 => 168 | 146 => 194 | 51 => 172 | 80 => 108 | n => n, fun | 1 => 3 | 3 => 1 | 4 => 2 | n => n⟩
theorem Tryz.lays155 : Go.Proofs.Lays.n155 Tryz.prog Tryz.lays155_ren := {
 mixed := by kernel_rfl
 f138 := Tryz.func140.trans (congrArg some (by kernel_rfl))
 f143 := Tryz.func112.trans (congrArg some (by kernel_rfl))
 f154 := Tryz.func123.trans (congrArg some (by kernel_rfl))
 f155 := Tryz.func101.trans (congrArg some (by kernel_rfl))
 f165 := Tryz.func141.trans (congrArg some (by kernel_rfl))
 f166 := Tryz.func72.trans (congrArg some (by kernel_rfl))
 f169 := Tryz.func53.trans (congrArg some (by kernel_rfl))
 f195 := Tryz.func67.trans (congrArg some (by kernel_rfl))
 f197 := Tryz.func84.trans (congrArg some (by kernel_rfl))
 f217 := Tryz.func146.trans (congrArg some (by kernel_rfl))
 f218 := Tryz.func158.trans (congrArg some (by kernel_rfl))
 f219 := Tryz.func128.trans (congrArg some (by kernel_rfl))
 f224 := Tryz.func148.trans (congrArg some (by kernel_rfl))
 f225 := Tryz.func147.trans (congrArg some (by kernel_rfl))
 f240 := Tryz.func97.trans (congrArg some (by kernel_rfl))
 f241 := Tryz.func159.trans (congrArg some (by kernel_rfl))
 f260 := Tryz.func106.trans (congrArg some (by kernel_rfl))
 f266 := Tryz.func160.trans (congrArg some (by kernel_rfl))
 f267 := Tryz.func149.trans (congrArg some (by kernel_rfl))
 f276 := Tryz.func117.trans (congrArg some (by kernel_rfl))
 f277 := Tryz.func166.trans (congrArg some (by kernel_rfl))
 f314 := Tryz.func161.trans (congrArg some (by kernel_rfl))
 t0 := Tryz.underlying0
 a0 := Tryz.isAgg0
 z0 := Tryz.sizeOf0
 v0 := Tryz.zeroValue0
 t3 := Tryz.underlying3
 a3 := Tryz.isAgg3
 z3 := Tryz.sizeOf3
 v3 := Tryz.zeroValue3
 t4 := Tryz.underlying4
 a4 := Tryz.isAgg4
 z4 := Tryz.sizeOf4
 v4 := Tryz.zeroValue4
 t5 := Tryz.underlying5
 a5 := Tryz.isAgg5
 z5 := Tryz.sizeOf5
 v5 := Tryz.zeroValue5
 t9 := Tryz.underlying9
 a9 := Tryz.isAgg9
 z9 := Tryz.sizeOf9
 v9 := Tryz.zeroValue9
 t20 := Tryz.underlying20
 a20 := Tryz.isAgg20
 z20 := Tryz.sizeOf20
 v20 := Tryz.zeroValue20
 t21 := Tryz.underlying21
 a21 := Tryz.isAgg21
 z21 := Tryz.sizeOf21
 v21 := Tryz.zeroValue21
 t37 := Tryz.underlying104
 a37 := Tryz.isAgg104
 z37 := Tryz.sizeOf104
 v37 := Tryz.zeroValue104
 t46 := Tryz.underlying166
 a46 := Tryz.isAgg166
 z46 := Tryz.sizeOf166
 v46 := Tryz.zeroValue166
 t51 := Tryz.underlying172
 a51 := Tryz.isAgg172
 z51 := Tryz.sizeOf172
 v51 := Tryz.zeroValue172
 t70 := Tryz.underlying103
 a70 := Tryz.isAgg103
 z70 := Tryz.sizeOf103
 v70 := Tryz.zeroValue103
 t72 := Tryz.underlying106
 a72 := Tryz.isAgg106
 z72 := Tryz.sizeOf106
 v72 := Tryz.zeroValue106
 t75 := Tryz.underlying124
 a75 := Tryz.isAgg124
 z75 := Tryz.sizeOf124
 v75 := Tryz.zeroValue124
 t76 := Tryz.underlying125
 a76 := Tryz.isAgg125
 z76 := Tryz.sizeOf125
 v76 := Tryz.zeroValue125
 t105 := Tryz.underlying116
 a105 := Tryz.isAgg116
 z105 := Tryz.sizeOf116
 v105 := Tryz.zeroValue116
 t119 := Tryz.underlying165
 a119 := Tryz.isAgg165
 z119 := Tryz.sizeOf165
 t127 := Tryz.underlying132
 a127 := Tryz.isAgg132
 z127 := Tryz.sizeOf132
 v127 := Tryz.zeroValue132
 t138 := Tryz.underlying168
 a138 := Tryz.isAgg168
 z138 := Tryz.sizeOf168
 v138 := Tryz.zeroValue168
 t139 := Tryz.underlying169
 a139 := Tryz.isAgg169
 z139 := Tryz.sizeOf169
 v139 := Tryz.zeroValue169
 t146 := Tryz.underlying194
 a146 := Tryz.isAgg194
 z146 := Tryz.sizeOf194
 v146 := Tryz.zeroValue194
 t164 := Tryz.underlying155
 a164 := Tryz.isAgg155
 z164 := Tryz.sizeOf155
 v164 := Tryz.zeroValue155
 g1 := by kernel_rfl
 g3 := by kernel_rfl
 g4 := by kernel_rfl }
theorem Tryz.Builder_Extra_155 : Builder.Extra Tryz.prog Tryz.lays155_ren := {
 sizeBuilder := by kernel_rfl
 liesBuilder := by kernel_rfl
 t5 := Tryz.underlying5
 a5 := Tryz.isAgg5
 z5 := Tryz.sizeOf5
 v5 := Tryz.zeroValue5
 infoByte := by kernel_rfl
 cellsByte := by kernel_rfl
 sizeByte := by kernel_rfl
 neB5 := by decide }
open Go.RowKit Go.Lib in
theorem Tryz.strings_ReplaceAll (s old new : ByteArray) (m : Int) (w : World) (hs : s.size < 4294967281) (hm : w.cell? ⟨3, 0, none⟩ = some (.int .i64 m)) (h1 : 1 ≤ old.size) (hlen : s.size + Lib.countB s old * new.size ≤ 140737488355328) :
  Calls Tryz.prog 101 #[.string s, .string old, .string new] w fun e w' =>
   e = .returned (.string ⟨(Lib.replaceAll s.data.toList old.data.toList new.data.toList).toArray⟩) ∧ Below w.heap.size w w' := Any.strings_ReplaceAll Tryz.lays155 Tryz.Builder_Extra_155 s old new m w hs hm h1 hlen
def Tryz.laysM155_ren : Go.Shelf.Ren := ⟨fun | 155 => 101 | 154 => 123 | 138 => 140 | 165 => 141 | 143 => 112 | 166 => 72 | 197 => 84 | 169 => 53 | 195 => 67 | 218 => 158 | 240 => 97 | 241 => 159 | 219 => 128 | 260 => 106 | 276 => 117 | 277 => 166 | 217 => 146 | 225 => 147 | 224 => 148 | 267 => 149 | 266 => 160 | 314 => 161 | n => n, fun | 9 => 9 | 3 => 3 | 4 => 4 | 72 => 106 | 0 => 0 | 76 => 125 | 105 => 116 | 21 => 21 | 5 => 5 | 70 => 103 | 20 => 20 | 37 => 104 | 75 => 124 | 127 => 132 | 164 => 155 | 46 => 166 | 119 => 165 | 139 => 169 | 138 => 168 | 146 => 194 | 51 => 172 | 80 => 108 | n => n, fun | 1 => 3 | 3 => 1 | 4 => 2 | n => n⟩
theorem Tryz.laysM155 : Go.Proofs.LaysM.n155 Tryz.prog Tryz.laysM155_ren := {
 mixed := by kernel_rfl
 f138 := Tryz.func140.trans (congrArg some (by kernel_rfl))
 f143 := Tryz.func112.trans (congrArg some (by kernel_rfl))
 f154 := Tryz.func123.trans (congrArg some (by kernel_rfl))
 f155 := Tryz.func101.trans (congrArg some (by kernel_rfl))
 f165 := Tryz.func141.trans (congrArg some (by kernel_rfl))
 f166 := Tryz.func72.trans (congrArg some (by kernel_rfl))
 f169 := Tryz.func53.trans (congrArg some (by kernel_rfl))
 f195 := Tryz.func67.trans (congrArg some (by kernel_rfl))
 f197 := Tryz.func84.trans (congrArg some (by kernel_rfl))
 f217 := Tryz.func146.trans (congrArg some (by kernel_rfl))
 f218 := Tryz.func158.trans (congrArg some (by kernel_rfl))
 f219 := Tryz.func128.trans (congrArg some (by kernel_rfl))
 f224 := Tryz.func148.trans (congrArg some (by kernel_rfl))
 f225 := Tryz.func147.trans (congrArg some (by kernel_rfl))
 f240 := Tryz.func97.trans (congrArg some (by kernel_rfl))
 f241 := Tryz.func159.trans (congrArg some (by kernel_rfl))
 f260 := Tryz.func106.trans (congrArg some (by kernel_rfl))
 f266 := Tryz.func160.trans (congrArg some (by kernel_rfl))
 f267 := Tryz.func149.trans (congrArg some (by kernel_rfl))
 f276 := Tryz.func117.trans (congrArg some (by kernel_rfl))
 f277 := Tryz.func166.trans (congrArg some (by kernel_rfl))
 f314 := Tryz.func161.trans (congrArg some (by kernel_rfl))
 t0 := Tryz.underlying0
 a0 := Tryz.isAgg0
 z0 := Tryz.sizeOf0
 v0 := Tryz.zeroValue0
 t3 := Tryz.underlying3
 a3 := Tryz.isAgg3
 z3 := Tryz.sizeOf3
 v3 := Tryz.zeroValue3
 t4 := Tryz.underlying4
 a4 := Tryz.isAgg4
 z4 := Tryz.sizeOf4
 v4 := Tryz.zeroValue4
 t5 := Tryz.underlying5
 a5 := Tryz.isAgg5
 z5 := Tryz.sizeOf5
 v5 := Tryz.zeroValue5
 t9 := Tryz.underlying9
 a9 := Tryz.isAgg9
 z9 := Tryz.sizeOf9
 v9 := Tryz.zeroValue9
 t20 := Tryz.underlying20
 a20 := Tryz.isAgg20
 z20 := Tryz.sizeOf20
 v20 := Tryz.zeroValue20
 t21 := Tryz.underlying21
 a21 := Tryz.isAgg21
 z21 := Tryz.sizeOf21
 v21 := Tryz.zeroValue21
 t37 := Tryz.underlying104
 a37 := Tryz.isAgg104
 z37 := Tryz.sizeOf104
 v37 := Tryz.zeroValue104
 t46 := Tryz.underlying166
 a46 := Tryz.isAgg166
 z46 := Tryz.sizeOf166
 v46 := Tryz.zeroValue166
 t51 := Tryz.underlying172
 a51 := Tryz.isAgg172
 z51 := Tryz.sizeOf172
 v51 := Tryz.zeroValue172
 t70 := Tryz.underlying103
 a70 := Tryz.isAgg103
 z70 := Tryz.sizeOf103
 v70 := Tryz.zeroValue103
 t72 := Tryz.underlying106
 a72 := Tryz.isAgg106
 z72 := Tryz.sizeOf106
 v72 := Tryz.zeroValue106
 t75 := Tryz.underlying124
 a75 := Tryz.isAgg124
 z75 := Tryz.sizeOf124
 v75 := Tryz.zeroValue124
 t76 := Tryz.underlying125
 a76 := Tryz.isAgg125
 z76 := Tryz.sizeOf125
 v76 := Tryz.zeroValue125
 t105 := Tryz.underlying116
 a105 := Tryz.isAgg116
 z105 := Tryz.sizeOf116
 v105 := Tryz.zeroValue116
 t119 := Tryz.underlying165
 a119 := Tryz.isAgg165
 z119 := Tryz.sizeOf165
 t127 := Tryz.underlying132
 a127 := Tryz.isAgg132
 z127 := Tryz.sizeOf132
 v127 := Tryz.zeroValue132
 t138 := Tryz.underlying168
 a138 := Tryz.isAgg168
 z138 := Tryz.sizeOf168
 v138 := Tryz.zeroValue168
 t139 := Tryz.underlying169
 a139 := Tryz.isAgg169
 z139 := Tryz.sizeOf169
 v139 := Tryz.zeroValue169
 t146 := Tryz.underlying194
 a146 := Tryz.isAgg194
 z146 := Tryz.sizeOf194
 v146 := Tryz.zeroValue194
 t164 := Tryz.underlying155
 a164 := Tryz.isAgg155
 z164 := Tryz.sizeOf155
 v164 := Tryz.zeroValue155
 g1 := by kernel_rfl
 g3 := by kernel_rfl
 g4 := by kernel_rfl
 t80 := Tryz.underlying108
 a80 := Tryz.isAgg108
 z80 := Tryz.sizeOf108
 v80 := Tryz.zeroValue108
 i0 := by kernel_rfl
 i3 := by kernel_rfl
 i4 := by kernel_rfl
 i5 := by kernel_rfl
 i9 := by kernel_rfl
 i20 := by kernel_rfl
 i21 := by kernel_rfl
 i37 := by kernel_rfl
 i46 := by kernel_rfl
 i51 := by kernel_rfl
 i70 := by kernel_rfl
 i72 := by kernel_rfl
 i75 := by kernel_rfl
 i76 := by kernel_rfl
 i80 := by kernel_rfl
 i105 := by kernel_rfl
 i127 := by kernel_rfl
 i138 := by kernel_rfl
 i139 := by kernel_rfl
 i146 := by kernel_rfl
 i164 := by kernel_rfl
 m1 := by kernel_rfl
 s1_3 := fun w h => Go.Proofs.cell_of_shapedOpen_int (zero := #[.int .i64 0]) (t := 3) h (of_decide_eq_true (by kernel_rfl)) (by kernel_rfl) rfl (by kernel_rfl) (by kernel_rfl) Tryz.underlying3
 m3 := by kernel_rfl
 m4 := by kernel_rfl }
def Tryz.lays260_ren : Go.Shelf.Ren := ⟨fun | 260 => 106 | n => n, fun | 9 => 9 | 21 => 21 | 3 => 3 | 4 => 4 | 5 => 5 | 119 => 165 | 0 => 0 | 46 => 166 | 139 => 169 | 138 => 168 | n => n, fun | 3 => 1 | 4 => 2 | n => n⟩
theorem Tryz.lays260 : Go.Proofs.Lays.n260 Tryz.prog Tryz.lays260_ren := {
 mixed := by kernel_rfl
 f260 := Tryz.func106.trans (congrArg some (by kernel_rfl))
 t0 := Tryz.underlying0
 a0 := Tryz.isAgg0
 z0 := Tryz.sizeOf0
 v0 := Tryz.zeroValue0
 t3 := Tryz.underlying3
 a3 := Tryz.isAgg3
 z3 := Tryz.sizeOf3
 v3 := Tryz.zeroValue3
 t4 := Tryz.underlying4
 a4 := Tryz.isAgg4
 z4 := Tryz.sizeOf4
 v4 := Tryz.zeroValue4
 t5 := Tryz.underlying5
 a5 := Tryz.isAgg5
 z5 := Tryz.sizeOf5
 v5 := Tryz.zeroValue5
 t9 := Tryz.underlying9
 a9 := Tryz.isAgg9
 z9 := Tryz.sizeOf9
 v9 := Tryz.zeroValue9
 t21 := Tryz.underlying21
 a21 := Tryz.isAgg21
 z21 := Tryz.sizeOf21
 v21 := Tryz.zeroValue21
 t46 := Tryz.underlying166
 a46 := Tryz.isAgg166
 z46 := Tryz.sizeOf166
 v46 := Tryz.zeroValue166
 t119 := Tryz.underlying165
 a119 := Tryz.isAgg165
 z119 := Tryz.sizeOf165
 t138 := Tryz.underlying168
 a138 := Tryz.isAgg168
 z138 := Tryz.sizeOf168
 v138 := Tryz.zeroValue168
 t139 := Tryz.underlying169
 a139 := Tryz.isAgg169
 z139 := Tryz.sizeOf169
 v139 := Tryz.zeroValue169
 g3 := by kernel_rfl
 g4 := by kernel_rfl }
def Tryz.lays197_ren : Go.Shelf.Ren := ⟨fun | 197 => 84 | 260 => 106 | n => n, fun | 9 => 9 | 21 => 21 | 3 => 3 | 4 => 4 | 5 => 5 | 105 => 116 | 119 => 165 | 0 => 0 | 46 => 166 | 139 => 169 | 138 => 168 | n => n, fun | 3 => 1 | 4 => 2 | n => n⟩
theorem Tryz.lays197 : Go.Proofs.Lays.n197 Tryz.prog Tryz.lays197_ren := {
 mixed := by kernel_rfl
 f197 := Tryz.func84.trans (congrArg some (by kernel_rfl))
 f260 := Tryz.func106.trans (congrArg some (by kernel_rfl))
 t0 := Tryz.underlying0
 a0 := Tryz.isAgg0
 z0 := Tryz.sizeOf0
 v0 := Tryz.zeroValue0
 t3 := Tryz.underlying3
 a3 := Tryz.isAgg3
 z3 := Tryz.sizeOf3
 v3 := Tryz.zeroValue3
 t4 := Tryz.underlying4
 a4 := Tryz.isAgg4
 z4 := Tryz.sizeOf4
 v4 := Tryz.zeroValue4
 t5 := Tryz.underlying5
 a5 := Tryz.isAgg5
 z5 := Tryz.sizeOf5
 v5 := Tryz.zeroValue5
 t9 := Tryz.underlying9
 a9 := Tryz.isAgg9
 z9 := Tryz.sizeOf9
 v9 := Tryz.zeroValue9
 t21 := Tryz.underlying21
 a21 := Tryz.isAgg21
 z21 := Tryz.sizeOf21
 v21 := Tryz.zeroValue21
 t46 := Tryz.underlying166
 a46 := Tryz.isAgg166
 z46 := Tryz.sizeOf166
 v46 := Tryz.zeroValue166
 t105 := Tryz.underlying116
 a105 := Tryz.isAgg116
 z105 := Tryz.sizeOf116
 v105 := Tryz.zeroValue116
 t119 := Tryz.underlying165
 a119 := Tryz.isAgg165
 z119 := Tryz.sizeOf165
 t138 := Tryz.underlying168
 a138 := Tryz.isAgg168
 z138 := Tryz.sizeOf168
 v138 := Tryz.zeroValue168
 t139 := Tryz.underlying169
 a139 := Tryz.isAgg169
 z139 := Tryz.sizeOf169
 v139 := Tryz.zeroValue169
 g3 := by kernel_rfl
 g4 := by kernel_rfl }
open Go.RowKit Go.Lib in
theorem Tryz.utf8_DecodeRuneInString (s : ByteArray) (w : World) (hT : Lib.Utf8Tabs 1 2 w) :
  Calls Tryz.prog 84 #[.string s] w fun e w' => e = .returned (.tuple #[.int .i32 (Lib.decodeGo s).1, .int .i64 (Lib.decodeGo s).2]) ∧ Below w.heap.size w w' := Any.utf8_DecodeRuneInString Tryz.lays197 s w hT
end Go.Proofs
namespace Go.A
open Go.Proofs
section
variable {P : Program} {σ : ASt} {w : World}
theorem reps_ints {k : IntKind} : ∀ {zs : List Int} {vs : List Value}, Reps σ w (zs.map (AV.int k)) vs → vs = zs.map (Value.int k)
 | [], vs, h => by cases h; rfl
 | z :: zs, vs, h => by
   cases h with
   | cons h1 h2 =>
     cases h1
     rw [reps_ints h2]
     rfl
theorem tabIs_of (hs : Sim σ w) {name : String} {b : Nat} {k : IntKind} {zs : List Int} (hg : P.globalNamed name = some b) (hb : σ b = some (.fix (zs.map (AV.int k)))) : Lib.TabIs P w name k zs := by
 obtain ⟨h1, c, T, fr, h2, h3⟩ := hs b _ hb
 obtain ⟨vs, h4, h5⟩ := h1.vals
 have h6 := reps_ints h4
 subst h6
 unfold Lib.TabIs World.var?
 rw [hg, Option.bind_some]
 simp only [h2]
 congr 1
 apply Array.ext
 ·simp [h3]
 ·intro j hj hj'
  have h7 := h5 j (Value.int k (zs[j]'(by simpa using hj'))) (by simp)
  simp only [World.cell?, h2, Nat.zero_add] at h7
  simp at h7 ⊢
  obtain ⟨_, h7⟩ := Array.getElem?_eq_some_iff.1 h7
  exact h7
theorem ACalls.of_ext {f : FuncId} {args : List AV} {r : AV} {u : Value} (h : ∀ w vs, Sim σ w → Reps σ w args vs → Calls P f ⟨vs⟩ w fun e w' => e = .returned u ∧ Ext w w') (hr : ∀ w, Rep σ w r u) : ACalls P f args σ fun v σ' => v = r ∧ σ' = σ :=
 fun w vs hs ha => (h w vs hs ha).mono fun e w' ⟨he, hx⟩ => ⟨u, r, σ, he, ⟨rfl, rfl⟩, ext_le hx, hs.ext hx, hr w'⟩
theorem ext_grow (w : World) (k : Nat) (os : Array Obj) : Ext w (Go.Sort.grow (w.drewN k) os) := ⟨⟨os, w.drawn + k⟩, rfl⟩
end
theorem Ext.of_eq {w w' : World} (h : w' = w) : Ext w w' := h ▸ Ext.refl w
def Tab (σ : ASt) : Prop := σ 4 = some (.fix (Lib.pow10Tab.map (AV.int .u64)))
theorem Tab.set {σ : ASt} {b : Nat} {r : Option Role} (h : Tab σ) (hb : σ b = none) : Tab (σ.set b r) := by
 unfold Tab at *
 rw [ASt.set_ne]
 ·exact h
 ·intro e; rw [← e, h] at hb; cases hb
end Go.A
namespace Go.A
open Go.Proofs
theorem itoa_ok {σ : ASt} (h : Tab σ) {n : Int} (h0 : -9223372036854775808 ≤ n) (h1 : n ≤ 9223372036854775807) : ACalls Tryz.prog 105 [.int .i64 n] σ fun v σ' => v = .str (Lib.itoa n) ∧ σ' = σ := by
 refine ACalls.of_ext (u := .string ⟨(Lib.itoa n).toArray⟩) (fun w vs hs ha => ?_) fun w => .str _
 cases ha with
 | cons h2 h3 =>
   cases h2; cases h3
   refine (Tryz.strconv_Itoa n h0 h1 w (tabIs_of hs (by kernel_rfl) h)).mono ?_
   rintro e w' ⟨he, k, os, rfl⟩
   exact ⟨he, ext_grow w k os⟩
end Go.A
namespace Go.A
open Go.Proofs
/-! 34: (tabular/addr.Ref).Moved -/
def c34_0 : ACode := .ops [
 ⟨some 3, none, .e (.box (.t 0)), []⟩,
 ⟨some 6, none, .e (.alloc [(.int .i64 0), (.int .i64 0), (.bool false), (.bool false)]), []⟩,
 ⟨some 7, none, .q (.mv (.v (.bool false))), []⟩]
def c34_1 : ACode := .ops [
 ⟨some 8, none, .q (.mv (.t 1)), []⟩,
 ⟨some 9, none, .q (.bin .leq (.t 8) (.v (.int .i64 (-3000)))), []⟩,
 ⟨some 10, none, .q (.mv (.t 9)), []⟩,
 ⟨some 11, some (10, false), .q (.mv (.t 1)), []⟩,
 ⟨some 12, some (10, false), .q (.bin .geq (.t 11) (.v (.int .i64 3000))), []⟩,
 ⟨some 13, none, .q (.pick (.t 10) (.v (.bool true)) (.t 12)), []⟩,
 ⟨some 14, none, .q (.mv (.t 13)), []⟩,
 ⟨some 15, some (14, false), .q (.mv (.t 2)), []⟩,
 ⟨some 16, some (14, false), .q (.bin .leq (.t 15) (.v (.int .i64 (-700)))), []⟩,
 ⟨some 17, none, .q (.pick (.t 14) (.v (.bool true)) (.t 16)), []⟩,
 ⟨some 18, none, .q (.mv (.t 17)), []⟩,
 ⟨some 19, some (18, false), .q (.mv (.t 2)), []⟩,
 ⟨some 20, some (18, false), .q (.bin .geq (.t 19) (.v (.int .i64 700))), []⟩,
 ⟨some 21, none, .q (.pick (.t 18) (.v (.bool true)) (.t 20)), []⟩]
def c34_2 : ACode := .ops [
 ⟨some 22, none, .q (.fa 2 (.t 3)), []⟩,
 ⟨some 23, none, .q (.ld none (.t 22)), []⟩,
 ⟨some 24, none, .q (.un .not (.t 23)), []⟩,
 ⟨some 25, none, .q (.mv (.t 24)), []⟩,
 ⟨some 26, some (25, true), .q (.mv (.t 1)), []⟩,
 ⟨some 27, some (25, true), .q (.bin .leq (.t 26) (.v (.int .i64 (-3000)))), []⟩,
 ⟨some 28, some (25, true), .q (.mv (.t 27)), []⟩,
 ⟨some 29, some (28, false), .q (.mv (.t 1)), []⟩,
 ⟨some 30, some (28, false), .q (.bin .geq (.t 29) (.v (.int .i64 3000))), []⟩,
 ⟨some 31, some (25, true), .q (.pick (.t 28) (.v (.bool true)) (.t 30)), []⟩,
 ⟨some 32, none, .q (.pick (.t 25) (.t 31) (.v (.bool false))), []⟩,
 ⟨some 33, none, .q (.mv (.t 32)), []⟩,
 ⟨some 34, some (33, false), .q (.fa 3 (.t 3)), []⟩,
 ⟨some 35, some (33, false), .q (.ld none (.t 34)), []⟩,
 ⟨some 36, some (33, false), .q (.un .not (.t 35)), []⟩,
 ⟨some 37, some (33, false), .q (.mv (.t 36)), []⟩,
 ⟨some 38, some (37, true), .q (.mv (.t 2)), []⟩,
 ⟨some 39, some (37, true), .q (.bin .leq (.t 38) (.v (.int .i64 (-700)))), []⟩,
 ⟨some 40, some (37, true), .q (.mv (.t 39)), []⟩,
 ⟨some 41, some (40, false), .q (.mv (.t 2)), []⟩,
 ⟨some 42, some (40, false), .q (.bin .geq (.t 41) (.v (.int .i64 700))), []⟩,
 ⟨some 43, some (37, true), .q (.pick (.t 40) (.v (.bool true)) (.t 42)), []⟩,
 ⟨some 44, some (33, false), .q (.pick (.t 37) (.t 43) (.v (.bool false))), []⟩,
 ⟨some 45, none, .q (.pick (.t 33) (.v (.bool true)) (.t 44)), []⟩]
def c34_3 : ACode := .ops [
 ⟨some 46, none, .q (.build [(.int .i64 0), (.int .i64 0), (.bool false), (.bool false)] []), []⟩,
 ⟨none, none, .e (.store 4 (.t 6) (.t 46)), []⟩,
 ⟨some 7, none, .q (.mv (.v (.bool false))), []⟩]
def c34_4 : ACode := .seq c34_3 .ret
def c34_5 : ACode := .cond (.t 45) c34_4 .skip
def c34_6 : ACode := .seq c34_2 c34_5
def c34_7 : ACode := .cond (.t 21) c34_6 .skip
def c34_8 : ACode := .seq c34_1 c34_7
def c34_9 : ACode := .ops [
 ⟨some 47, none, .q (.fa 2 (.t 3)), []⟩,
 ⟨some 48, none, .q (.ld none (.t 47)), []⟩,
 ⟨some 49, none, .q (.un .not (.t 48)), []⟩]
def c34_10 : ACode := .ops [
 ⟨some 50, none, .q (.fa 0 (.t 3)), []⟩,
 ⟨some 51, none, .q (.ld none (.t 50)), []⟩,
 ⟨some 52, none, .q (.mv (.t 1)), []⟩,
 ⟨some 53, none, .q (.bin .add (.t 51) (.t 52)), []⟩,
 ⟨some 54, none, .q (.fa 0 (.t 3)), []⟩,
 ⟨none, none, .e (.store 1 (.t 54) (.t 53)), []⟩]
def c34_11 : ACode := .cond (.t 49) c34_10 .skip
def c34_12 : ACode := .seq c34_9 c34_11
def c34_13 : ACode := .ops [
 ⟨some 55, none, .q (.fa 3 (.t 3)), []⟩,
 ⟨some 56, none, .q (.ld none (.t 55)), []⟩,
 ⟨some 57, none, .q (.un .not (.t 56)), []⟩]
def c34_14 : ACode := .ops [
 ⟨some 58, none, .q (.fa 1 (.t 3)), []⟩,
 ⟨some 59, none, .q (.ld none (.t 58)), []⟩,
 ⟨some 60, none, .q (.mv (.t 2)), []⟩,
 ⟨some 61, none, .q (.bin .add (.t 59) (.t 60)), []⟩,
 ⟨some 62, none, .q (.fa 1 (.t 3)), []⟩,
 ⟨none, none, .e (.store 1 (.t 62) (.t 61)), []⟩]
def c34_15 : ACode := .cond (.t 57) c34_14 .skip
def c34_16 : ACode := .seq c34_13 c34_15
def c34_17 : ACode := .ops [
 ⟨some 63, none, .q (.ld (some 4) (.t 3)), []⟩,
 ⟨some 64, none, .e (.call 54 [(.t 63)]), []⟩,
 ⟨some 65, none, .q (.un .not (.t 64)), []⟩]
def c34_18 : ACode := .ops [
 ⟨some 66, none, .q (.build [(.int .i64 0), (.int .i64 0), (.bool false), (.bool false)] []), []⟩,
 ⟨none, none, .e (.store 4 (.t 6) (.t 66)), []⟩,
 ⟨some 7, none, .q (.mv (.v (.bool false))), []⟩]
def c34_19 : ACode := .seq c34_18 .ret
def c34_20 : ACode := .cond (.t 65) c34_19 .skip
def c34_21 : ACode := .seq c34_17 c34_20
def c34_22 : ACode := .ops [
 ⟨some 67, none, .q (.ld (some 4) (.t 3)), []⟩,
 ⟨none, none, .e (.store 4 (.t 6) (.t 67)), []⟩,
 ⟨some 7, none, .q (.mv (.v (.bool true))), []⟩]
def c34_23 : ACode := .seq c34_22 .ret
def c34_24 : ACode := .seq c34_21 c34_23
def c34_25 : ACode := .seq c34_16 c34_24
def c34_26 : ACode := .seq c34_12 c34_25
def c34_27 : ACode := .seq c34_8 c34_26
def c34_28 : ACode := .seq c34_0 c34_27
@[go_sem] def c34_0_wp := wp_of c34_0.eq_1
@[go_sem] def c34_1_wp := wp_of c34_1.eq_1
@[go_sem] def c34_2_wp := wp_of c34_2.eq_1
@[go_sem] def c34_3_wp := wp_of c34_3.eq_1
@[go_sem] def c34_4_wp := wp_of c34_4.eq_1
@[go_sem] def c34_5_wp := wp_of c34_5.eq_1
@[go_sem] def c34_6_wp := wp_of c34_6.eq_1
@[go_sem] def c34_7_wp := wp_of c34_7.eq_1
@[go_sem] def c34_8_wp := wp_of c34_8.eq_1
@[go_sem] def c34_9_wp := wp_of c34_9.eq_1
@[go_sem] def c34_10_wp := wp_of c34_10.eq_1
@[go_sem] def c34_11_wp := wp_of c34_11.eq_1
@[go_sem] def c34_12_wp := wp_of c34_12.eq_1
@[go_sem] def c34_13_wp := wp_of c34_13.eq_1
@[go_sem] def c34_14_wp := wp_of c34_14.eq_1
@[go_sem] def c34_15_wp := wp_of c34_15.eq_1
@[go_sem] def c34_16_wp := wp_of c34_16.eq_1
@[go_sem] def c34_17_wp := wp_of c34_17.eq_1
@[go_sem] def c34_18_wp := wp_of c34_18.eq_1
@[go_sem] def c34_19_wp := wp_of c34_19.eq_1
@[go_sem] def c34_20_wp := wp_of c34_20.eq_1
@[go_sem] def c34_21_wp := wp_of c34_21.eq_1
@[go_sem] def c34_22_wp := wp_of c34_22.eq_1
@[go_sem] def c34_23_wp := wp_of c34_23.eq_1
@[go_sem] def c34_24_wp := wp_of c34_24.eq_1
@[go_sem] def c34_25_wp := wp_of c34_25.eq_1
@[go_sem] def c34_26_wp := wp_of c34_26.eq_1
@[go_sem] def c34_27_wp := wp_of c34_27.eq_1
@[go_sem] def c34_28_wp := wp_of c34_28.eq_1
def c34 : AFn := ⟨68, [.c 6 (some 4), .t 7], c34_28⟩
theorem c34_ok : compF Tryz.prog Tryz.f34 = some c34 := by kernel_rfl
theorem a34 {args : List AV} {σ : ASt} {R : AV → ASt → Prop} (hl : args.length ≤ 68) (h : c34_28.wp Tryz.prog (RetQ [.c 6 (some 4), .t 7] R) (init args) σ) : ACalls Tryz.prog 34 args σ R := acalls_of Tryz.func34 c34_ok hl h
/-! 54: (tabular/addr.Ref).Good -/
def c54_0 : ACode := .ops [
 ⟨some 1, none, .e (.box (.t 0)), []⟩,
 ⟨some 2, none, .q (.mv (.v (.bool false))), []⟩]
def c54_1 : ACode := .ops [
 ⟨some 3, none, .q (.fa 0 (.t 1)), []⟩,
 ⟨some 4, none, .q (.ld none (.t 3)), []⟩,
 ⟨some 5, none, .q (.bin .geq (.t 4) (.v (.int .i64 0))), []⟩,
 ⟨some 6, none, .q (.mv (.t 5)), []⟩,
 ⟨some 7, some (6, true), .q (.fa 0 (.t 1)), []⟩,
 ⟨some 8, some (6, true), .q (.ld none (.t 7)), []⟩,
 ⟨some 9, some (6, true), .q (.bin .lss (.t 8) (.v (.int .i64 3000))), []⟩,
 ⟨some 10, none, .q (.pick (.t 6) (.t 9) (.v (.bool false))), []⟩,
 ⟨some 11, none, .q (.mv (.t 10)), []⟩,
 ⟨some 12, some (11, true), .q (.fa 1 (.t 1)), []⟩,
 ⟨some 13, some (11, true), .q (.ld none (.t 12)), []⟩,
 ⟨some 14, some (11, true), .q (.bin .geq (.t 13) (.v (.int .i64 0))), []⟩,
 ⟨some 15, none, .q (.pick (.t 11) (.t 14) (.v (.bool false))), []⟩,
 ⟨some 16, none, .q (.mv (.t 15)), []⟩,
 ⟨some 17, some (16, true), .q (.fa 1 (.t 1)), []⟩,
 ⟨some 18, some (16, true), .q (.ld none (.t 17)), []⟩,
 ⟨some 19, some (16, true), .q (.bin .lss (.t 18) (.v (.int .i64 700))), []⟩,
 ⟨some 20, none, .q (.pick (.t 16) (.t 19) (.v (.bool false))), []⟩,
 ⟨some 2, none, .q (.mv (.t 20)), []⟩]
def c54_2 : ACode := .seq c54_1 .ret
def c54_3 : ACode := .seq c54_0 c54_2
@[go_sem] def c54_0_wp := wp_of c54_0.eq_1
@[go_sem] def c54_1_wp := wp_of c54_1.eq_1
@[go_sem] def c54_2_wp := wp_of c54_2.eq_1
@[go_sem] def c54_3_wp := wp_of c54_3.eq_1
def c54 : AFn := ⟨21, [.t 2], c54_3⟩
theorem c54_ok : compF Tryz.prog Tryz.f54 = some c54 := by kernel_rfl
theorem a54 {args : List AV} {σ : ASt} {R : AV → ASt → Prop} (hl : args.length ≤ 21) (h : c54_3.wp Tryz.prog (RetQ [.t 2] R) (init args) σ) : ACalls Tryz.prog 54 args σ R := acalls_of Tryz.func54 c54_ok hl h
/-! 143: tabular/addr.letter -/
def c143_0 : ACode := .ops [
 ⟨some 2, none, .q (.mv (.v (.int .i64 0))), []⟩]
def c143_1 : ACode := .ops [
 ⟨some 4, none, .q (.mv (.t 0)), []⟩,
 ⟨some 5, none, .q (.bin .geq (.t 4) (.v (.int .u8 65))), []⟩,
 ⟨some 6, none, .q (.mv (.t 5)), []⟩,
 ⟨some 7, some (6, true), .q (.mv (.t 0)), []⟩,
 ⟨some 8, some (6, true), .q (.bin .leq (.t 7) (.v (.int .u8 90))), []⟩,
 ⟨some 9, none, .q (.pick (.t 6) (.t 8) (.v (.bool false))), []⟩,
 ⟨some 3, none, .q (.mv (.t 9)), []⟩]
def c143_2 : ACode := .ops [
 ⟨some 10, none, .q (.mv (.t 0)), []⟩,
 ⟨some 11, none, .q (.bin .sub (.t 10) (.v (.int .u8 65))), []⟩,
 ⟨some 12, none, .q (.conv .i64 (.t 11)), []⟩,
 ⟨some 13, none, .q (.bin .add (.t 12) (.v (.int .i64 1))), []⟩,
 ⟨some 2, none, .q (.mv (.t 13)), []⟩]
def c143_3 : ACode := .seq c143_2 .ret
def c143_4 : ACode := .ops [
 ⟨some 15, none, .q (.mv (.t 0)), []⟩,
 ⟨some 16, none, .q (.bin .geq (.t 15) (.v (.int .u8 97))), []⟩,
 ⟨some 17, none, .q (.mv (.t 16)), []⟩,
 ⟨some 18, some (17, true), .q (.mv (.t 0)), []⟩,
 ⟨some 19, some (17, true), .q (.bin .leq (.t 18) (.v (.int .u8 122))), []⟩,
 ⟨some 20, none, .q (.pick (.t 17) (.t 19) (.v (.bool false))), []⟩,
 ⟨some 14, none, .q (.mv (.t 20)), []⟩]
def c143_5 : ACode := .ops [
 ⟨some 21, none, .q (.mv (.t 0)), []⟩,
 ⟨some 22, none, .q (.bin .sub (.t 21) (.v (.int .u8 97))), []⟩,
 ⟨some 23, none, .q (.conv .i64 (.t 22)), []⟩,
 ⟨some 24, none, .q (.bin .add (.t 23) (.v (.int .i64 1))), []⟩,
 ⟨some 2, none, .q (.mv (.t 24)), []⟩]
def c143_6 : ACode := .seq c143_5 .ret
def c143_7 : ACode := .cond (.t 14) c143_6 .skip
def c143_8 : ACode := .seq c143_4 c143_7
def c143_9 : ACode := .cond (.t 3) c143_3 c143_8
def c143_10 : ACode := .seq c143_1 c143_9
def c143_11 : ACode := .block 0 c143_10
def c143_12 : ACode := .ops [
 ⟨some 2, none, .q (.mv (.v (.int .i64 0))), []⟩]
def c143_13 : ACode := .seq c143_12 .ret
def c143_14 : ACode := .seq c143_11 c143_13
def c143_15 : ACode := .seq c143_0 c143_14
@[go_sem] def c143_0_wp := wp_of c143_0.eq_1
@[go_sem] def c143_1_wp := wp_of c143_1.eq_1
@[go_sem] def c143_2_wp := wp_of c143_2.eq_1
@[go_sem] def c143_3_wp := wp_of c143_3.eq_1
@[go_sem] def c143_4_wp := wp_of c143_4.eq_1
@[go_sem] def c143_5_wp := wp_of c143_5.eq_1
@[go_sem] def c143_6_wp := wp_of c143_6.eq_1
@[go_sem] def c143_7_wp := wp_of c143_7.eq_1
@[go_sem] def c143_8_wp := wp_of c143_8.eq_1
@[go_sem] def c143_9_wp := wp_of c143_9.eq_1
@[go_sem] def c143_10_wp := wp_of c143_10.eq_1
@[go_sem] def c143_11_wp := wp_of c143_11.eq_1
@[go_sem] def c143_12_wp := wp_of c143_12.eq_1
@[go_sem] def c143_13_wp := wp_of c143_13.eq_1
@[go_sem] def c143_14_wp := wp_of c143_14.eq_1
@[go_sem] def c143_15_wp := wp_of c143_15.eq_1
def c143 : AFn := ⟨25, [.t 2], c143_15⟩
theorem c143_ok : compF Tryz.prog Tryz.f143 = some c143 := by kernel_rfl
theorem a143 {args : List AV} {σ : ASt} {R : AV → ASt → Prop} (hl : args.length ≤ 25) (h : c143_15.wp Tryz.prog (RetQ [.t 2] R) (init args) σ) : ACalls Tryz.prog 143 args σ R := acalls_of Tryz.func143 c143_ok hl h
end Go.A
namespace Go.A
open Go.Proofs
def letterP (c : Int) : Int := if 65 ≤ c ∧ c ≤ 90 then c - 64 else if 97 ≤ c ∧ c ≤ 122 then c - 96 else 0
theorem letter_ok (c : Int) (h0 : 0 ≤ c) (h1 : c ≤ 255) : Pure Tryz.prog 143 [.int .u8 c] (.int .i64 (letterP c)) := by
 intro σ
 refine a143 (by simp) ?_
 repeat' (first | (simp (disch := first | assumption | omega) only [go_sem, reduceCtorEq, Nat.reduceEqDiff, ↓reduceIte]) | with_reducible refine gC_d (fun h => ?_) (fun h => ?_) | with_reducible refine gC_dn (fun h => ?_) (fun h => ?_) | with_reducible refine condC_d (fun h => ?_) (fun h => ?_) | with_reducible refine condC_n (fun h => ?_) (fun h => ?_) | with_reducible refine condC_b (fun h => ?_) (fun h => ?_) | with_reducible refine boxC_by ?_ fun b hb => ?_)
 all_goals refine retC_by (Drop.refl _) (.refl _) ⟨?_, rfl⟩
 all_goals (simp only [letterP, resV_one]; congr 1; repeat' split) <;> omega
structure Ref where
 row : Int
 col : Int
 absRow : Bool
 absCol : Bool
 deriving DecidableEq, Inhabited
def refAV (r : Ref) : AV := .agg [.int .i64 r.row, .int .i64 r.col, .bool r.absRow, .bool r.absCol]
def Ref.good (r : Ref) : Bool := decide (0 ≤ r.row ∧ r.row < 3000 ∧ 0 ≤ r.col ∧ r.col < 700)
def Ref.zero : Ref := ⟨0, 0, false, false⟩
theorem good_ok (r : Ref) : Pure Tryz.prog 54 [refAV r] (.bool r.good) := by
 intro σ
 obtain ⟨row, col, ar, ac⟩ := r
 refine a54 (by simp) ?_
 repeat' (first | (simp (disch := first | assumption | omega) only [go_sem, Nat.reduceEqDiff, ↓reduceIte, refAV]) | with_reducible refine gC_d (fun h => ?_) (fun h => ?_) | with_reducible refine gC_dn (fun h => ?_) (fun h => ?_) | with_reducible refine condC_d (fun h => ?_) (fun h => ?_) | with_reducible refine condC_n (fun h => ?_) (fun h => ?_) | with_reducible refine condC_b (fun h => ?_) (fun h => ?_) | with_reducible refine boxC_by ?_ fun b hb => ?_)
 all_goals refine retC_by (Drop.set (by assumption)) (.refl _) ⟨?_, rfl⟩
 all_goals (simp only [Ref.good, resV_one]; congr 1; rw [Bool.eq_iff_iff]; simp; try omega)
def movedP (r : Ref) (rows cols : Int) : Ref × Bool :=
 if (r.absRow = false ∧ (rows ≤ -3000 ∨ 3000 ≤ rows)) ∨ (r.absCol = false ∧ (cols ≤ -700 ∨ 700 ≤ cols)) then (.zero, false)
 else
  let q : Ref := ⟨if r.absRow then r.row else r.row + rows, if r.absCol then r.col else r.col + cols, r.absRow, r.absCol⟩
  if q.good then (q, true) else (.zero, false)
theorem moved_ok (r : Ref) (rows cols : Int) (h1 : -4000000 ≤ r.row ∧ r.row ≤ 4000000) (h2 : -4000000 ≤ r.col ∧ r.col ≤ 4000000) :
  Pure Tryz.prog 34 [refAV r, .int .i64 rows, .int .i64 cols] (.tuple [refAV (movedP r rows cols).1, .bool (movedP r rows cols).2]) := by
 intro σ
 obtain ⟨row, col, ar, ac⟩ := r
 simp only at h1 h2
 obtain ⟨q, hq⟩ : ∃ q, movedP ⟨row, col, ar, ac⟩ rows cols = q := ⟨_, rfl⟩
 rw [hq]
 refine a34 (by simp) ?_
 simp (disch := first | assumption | omega) only [go_sem, refAV]
 refine boxC_by rfl fun b hb => ?_
 simp (disch := first | assumption | omega) only [go_sem]
 refine allocC_by fun b2 hb2 => ?_
 obtain ⟨n1, n2, hb3⟩ := set_none hb2
 cases ar <;> cases ac
 repeat' (first | (simp (disch := first | assumption | omega) only [go_sem, Nat.reduceEqDiff, Nat.reduceAdd, Nat.reduceLeDiff, ↓reduceIte, Int.reduceNeg, Bool.true_and]) | refine (good_ok ⟨_, _, _, _⟩).use ?_ | with_reducible refine gC_d (fun h => ?_) (fun h => ?_) | with_reducible refine gC_dn (fun h => ?_) (fun h => ?_) | with_reducible refine condC_d (fun h => ?_) (fun h => ?_) | with_reducible refine condC_n (fun h => ?_) (fun h => ?_) | with_reducible refine condC_b (fun h => ?_) (fun h => ?_) | with_reducible refine boxC_by ?_ fun b hb => ?_)
 all_goals refine retC_by ?_ (.refl _) ⟨?_, rfl⟩
 all_goals first
  | (repeat' (first | exact Drop.refl _ | with_reducible refine Drop.off ?_ (by assumption))
     done)
  | skip
 all_goals try simp only [resV_two, movedP, Ref.zero, Ref.good, Bool.false_eq_true, if_true, if_false, true_and, false_and, or_false, false_or, decide_eq_true_eq, decide_eq_false_iff_not, reduceCtorEq, Bool.not_eq_true', Bool.not_eq_false'] at *
 all_goals (repeat' (split at hq)) <;> first | (subst hq; rfl) | (exfalso; omega) | skip
end Go.A
namespace Go.A
open Go.Proofs
/-! 104: tabular/addr.Letters -/
def c104_0 : ACode := .ops [
 ⟨some 2, none, .q (.mv (.v (.str []))), []⟩]
def c104_1 : ACode := .ops [
 ⟨some 4, none, .q (.mv (.t 0)), []⟩,
 ⟨some 5, none, .q (.bin .lss (.t 4) (.v (.int .i64 0))), []⟩,
 ⟨some 6, none, .q (.mv (.t 5)), []⟩,
 ⟨some 7, some (6, false), .q (.mv (.t 0)), []⟩,
 ⟨some 8, some (6, false), .q (.bin .geq (.t 7) (.v (.int .i64 700))), []⟩,
 ⟨some 9, none, .q (.pick (.t 6) (.v (.bool true)) (.t 8)), []⟩]
def c104_2 : ACode := .ops [
 ⟨some 2, none, .q (.mv (.v (.str []))), []⟩]
def c104_3 : ACode := .seq c104_2 .ret
def c104_4 : ACode := .cond (.t 9) c104_3 .skip
def c104_5 : ACode := .seq c104_1 c104_4
def c104_6 : ACode := .ops [
 ⟨some 3, none, .q (.mv (.v (.str []))), []⟩]
def c104_7 : ACode := .ops [
 ⟨some 10, none, .q (.mv (.t 0)), []⟩,
 ⟨some 11, none, .q (.bin .add (.t 10) (.v (.int .i64 1))), []⟩,
 ⟨some 0, none, .q (.mv (.t 11)), []⟩]
def c104_8 : ACode := .ops [
 ⟨some 12, none, .q (.mv (.t 0)), []⟩,
 ⟨some 13, none, .q (.bin .gtr (.t 12) (.v (.int .i64 0))), []⟩]
def c104_9 : ACode := .cond (.t 13) .skip (.exit 0)
def c104_10 : ACode := .seq c104_8 c104_9
def c104_11 : ACode := .ops [
 ⟨some 17, none, .q (.mv (.t 0)), []⟩,
 ⟨some 18, none, .q (.bin .sub (.t 17) (.v (.int .i64 1))), []⟩,
 ⟨some 19, none, .q (.bin .rem (.t 18) (.v (.int .i64 26))), []⟩,
 ⟨some 20, none, .q (.bin .add (.v (.int .i64 65)) (.t 19)), []⟩,
 ⟨some 21, none, .q (.conv .u8 (.t 20)), []⟩,
 ⟨some 22, none, .q (.bsl 1 [(.t 21)]), []⟩,
 ⟨some 23, none, .q (.b2s (.t 22)), []⟩,
 ⟨some 24, none, .q (.mv (.t 3)), []⟩,
 ⟨some 25, none, .q (.bin .add (.t 23) (.t 24)), []⟩,
 ⟨some 3, none, .q (.mv (.t 25)), []⟩]
def c104_12 : ACode := .block 1 c104_11
def c104_13 : ACode := .ops [
 ⟨some 14, none, .q (.mv (.t 0)), []⟩,
 ⟨some 15, none, .q (.bin .sub (.t 14) (.v (.int .i64 1))), []⟩,
 ⟨some 16, none, .q (.bin .quo (.t 15) (.v (.int .i64 26))), []⟩,
 ⟨some 0, none, .q (.mv (.t 16)), []⟩]
def c104_14 : ACode := .seq c104_12 c104_13
def c104_15 : ACode := .seq c104_10 c104_14
def c104_16 : ACode := .loop c104_15
def c104_17 : ACode := .block 0 c104_16
def c104_18 : ACode := .seq c104_7 c104_17
def c104_19 : ACode := .ops [
 ⟨some 26, none, .q (.mv (.t 3)), []⟩,
 ⟨some 2, none, .q (.mv (.t 26)), []⟩]
def c104_20 : ACode := .seq c104_19 .ret
def c104_21 : ACode := .seq c104_18 c104_20
def c104_22 : ACode := .seq c104_6 c104_21
def c104_23 : ACode := .seq c104_5 c104_22
def c104_24 : ACode := .seq c104_0 c104_23
@[go_sem] def c104_0_wp := wp_of c104_0.eq_1
@[go_sem] def c104_1_wp := wp_of c104_1.eq_1
@[go_sem] def c104_2_wp := wp_of c104_2.eq_1
@[go_sem] def c104_3_wp := wp_of c104_3.eq_1
@[go_sem] def c104_4_wp := wp_of c104_4.eq_1
@[go_sem] def c104_5_wp := wp_of c104_5.eq_1
@[go_sem] def c104_6_wp := wp_of c104_6.eq_1
@[go_sem] def c104_7_wp := wp_of c104_7.eq_1
@[go_sem] def c104_8_wp := wp_of c104_8.eq_1
@[go_sem] def c104_9_wp := wp_of c104_9.eq_1
@[go_sem] def c104_10_wp := wp_of c104_10.eq_1
@[go_sem] def c104_11_wp := wp_of c104_11.eq_1
@[go_sem] def c104_12_wp := wp_of c104_12.eq_1
@[go_sem] def c104_13_wp := wp_of c104_13.eq_1
@[go_sem] def c104_14_wp := wp_of c104_14.eq_1
@[go_sem] def c104_15_wp := wp_of c104_15.eq_1
@[go_sem] def c104_16_wp := wp_of c104_16.eq_1
@[go_sem] def c104_17_wp := wp_of c104_17.eq_1
@[go_sem] def c104_18_wp := wp_of c104_18.eq_1
@[go_sem] def c104_19_wp := wp_of c104_19.eq_1
@[go_sem] def c104_20_wp := wp_of c104_20.eq_1
@[go_sem] def c104_21_wp := wp_of c104_21.eq_1
@[go_sem] def c104_22_wp := wp_of c104_22.eq_1
@[go_sem] def c104_23_wp := wp_of c104_23.eq_1
@[go_sem] def c104_24_wp := wp_of c104_24.eq_1
def c104 : AFn := ⟨27, [.t 2], c104_24⟩
theorem c104_ok : compF Tryz.prog Tryz.f104 = some c104 := by kernel_rfl
theorem a104 {args : List AV} {σ : ASt} {R : AV → ASt → Prop} (hl : args.length ≤ 27) (h : c104_24.wp Tryz.prog (RetQ [.t 2] R) (init args) σ) : ACalls Tryz.prog 104 args σ R := acalls_of Tryz.func104 c104_ok hl h
/-! 144: tabular/addr.Column -/
def c144_0 : ACode := .ops [
 ⟨some 2, none, .q (.mv (.v (.int .i64 0))), []⟩,
 ⟨some 3, none, .q (.mv (.v (.bool false))), []⟩]
def c144_1 : ACode := .ops [
 ⟨some 4, none, .q (.mv (.v (.int .i64 0))), []⟩]
def c144_2 : ACode := .ops [
 ⟨some 7, none, .q (.mv (.t 0)), []⟩,
 ⟨some 8, none, .e (.s2b (.t 7)), []⟩,
 ⟨some 9, none, .q (.len (.t 8)), []⟩,
 ⟨some 10, none, .q (.mv (.v (.int .i64 0))), []⟩]
def c144_3 : ACode := .ops [
 ⟨some 11, none, .q (.bin .lss (.t 10) (.t 9)), []⟩]
def c144_4 : ACode := .cond (.t 11) .skip (.exit 0)
def c144_5 : ACode := .ops [
 ⟨some 12, none, .q (.ia 1 (.t 8) (.t 10)), []⟩,
 ⟨some 13, none, .q (.ld none (.t 12)), []⟩,
 ⟨some 6, none, .q (.mv (.t 13)), []⟩]
def c144_6 : ACode := .ops [
 ⟨some 14, none, .q (.mv (.t 6)), []⟩,
 ⟨some 15, none, .e (.call 143 [(.t 14)]), []⟩,
 ⟨some 16, none, .q (.bin .eql (.t 15) (.v (.int .i64 0))), []⟩,
 ⟨some 17, none, .q (.mv (.t 16)), []⟩,
 ⟨some 18, some (17, false), .q (.mv (.t 4)), []⟩,
 ⟨some 19, some (17, false), .q (.bin .gtr (.t 18) (.v (.int .i64 700))), []⟩,
 ⟨some 20, none, .q (.pick (.t 17) (.v (.bool true)) (.t 19)), []⟩]
def c144_7 : ACode := .ops [
 ⟨some 2, none, .q (.mv (.v (.int .i64 0))), []⟩,
 ⟨some 3, none, .q (.mv (.v (.bool false))), []⟩]
def c144_8 : ACode := .seq c144_7 .ret
def c144_9 : ACode := .cond (.t 20) c144_8 .skip
def c144_10 : ACode := .seq c144_6 c144_9
def c144_11 : ACode := .ops [
 ⟨some 21, none, .q (.mv (.t 4)), []⟩,
 ⟨some 22, none, .q (.bin .mul (.v (.int .i64 26)) (.t 21)), []⟩,
 ⟨some 23, none, .q (.mv (.t 6)), []⟩,
 ⟨some 24, none, .e (.call 143 [(.t 23)]), []⟩,
 ⟨some 25, none, .q (.bin .add (.t 22) (.t 24)), []⟩,
 ⟨some 4, none, .q (.mv (.t 25)), []⟩]
def c144_12 : ACode := .seq c144_10 c144_11
def c144_13 : ACode := .seq c144_5 c144_12
def c144_14 : ACode := .block 1 c144_13
def c144_15 : ACode := .ops [
 ⟨some 26, none, .q (.bin .add (.t 10) (.v (.int .i64 1))), []⟩,
 ⟨some 10, none, .q (.mv (.t 26)), []⟩]
def c144_16 : ACode := .seq c144_14 c144_15
def c144_17 : ACode := .seq c144_4 c144_16
def c144_18 : ACode := .seq c144_3 c144_17
def c144_19 : ACode := .loop c144_18
def c144_20 : ACode := .block 0 c144_19
def c144_21 : ACode := .seq c144_2 c144_20
def c144_22 : ACode := .ops [
 ⟨some 27, none, .q (.mv (.t 4)), []⟩,
 ⟨some 28, none, .q (.bin .lss (.t 27) (.v (.int .i64 1))), []⟩,
 ⟨some 29, none, .q (.mv (.t 28)), []⟩,
 ⟨some 30, some (29, false), .q (.mv (.t 4)), []⟩,
 ⟨some 31, some (29, false), .q (.bin .gtr (.t 30) (.v (.int .i64 700))), []⟩,
 ⟨some 32, none, .q (.pick (.t 29) (.v (.bool true)) (.t 31)), []⟩]
def c144_23 : ACode := .ops [
 ⟨some 2, none, .q (.mv (.v (.int .i64 0))), []⟩,
 ⟨some 3, none, .q (.mv (.v (.bool false))), []⟩]
def c144_24 : ACode := .seq c144_23 .ret
def c144_25 : ACode := .cond (.t 32) c144_24 .skip
def c144_26 : ACode := .seq c144_22 c144_25
def c144_27 : ACode := .ops [
 ⟨some 33, none, .q (.mv (.t 4)), []⟩,
 ⟨some 34, none, .q (.bin .sub (.t 33) (.v (.int .i64 1))), []⟩,
 ⟨some 2, none, .q (.mv (.t 34)), []⟩,
 ⟨some 3, none, .q (.mv (.v (.bool true))), []⟩]
def c144_28 : ACode := .seq c144_27 .ret
def c144_29 : ACode := .seq c144_26 c144_28
def c144_30 : ACode := .seq c144_21 c144_29
def c144_31 : ACode := .seq c144_1 c144_30
def c144_32 : ACode := .seq c144_0 c144_31
@[go_sem] def c144_0_wp := wp_of c144_0.eq_1
@[go_sem] def c144_1_wp := wp_of c144_1.eq_1
@[go_sem] def c144_2_wp := wp_of c144_2.eq_1
@[go_sem] def c144_3_wp := wp_of c144_3.eq_1
@[go_sem] def c144_4_wp := wp_of c144_4.eq_1
@[go_sem] def c144_5_wp := wp_of c144_5.eq_1
@[go_sem] def c144_6_wp := wp_of c144_6.eq_1
@[go_sem] def c144_7_wp := wp_of c144_7.eq_1
@[go_sem] def c144_8_wp := wp_of c144_8.eq_1
@[go_sem] def c144_9_wp := wp_of c144_9.eq_1
@[go_sem] def c144_10_wp := wp_of c144_10.eq_1
@[go_sem] def c144_11_wp := wp_of c144_11.eq_1
@[go_sem] def c144_12_wp := wp_of c144_12.eq_1
@[go_sem] def c144_13_wp := wp_of c144_13.eq_1
@[go_sem] def c144_14_wp := wp_of c144_14.eq_1
@[go_sem] def c144_15_wp := wp_of c144_15.eq_1
@[go_sem] def c144_16_wp := wp_of c144_16.eq_1
@[go_sem] def c144_17_wp := wp_of c144_17.eq_1
@[go_sem] def c144_18_wp := wp_of c144_18.eq_1
@[go_sem] def c144_19_wp := wp_of c144_19.eq_1
@[go_sem] def c144_20_wp := wp_of c144_20.eq_1
@[go_sem] def c144_21_wp := wp_of c144_21.eq_1
@[go_sem] def c144_22_wp := wp_of c144_22.eq_1
@[go_sem] def c144_23_wp := wp_of c144_23.eq_1
@[go_sem] def c144_24_wp := wp_of c144_24.eq_1
@[go_sem] def c144_25_wp := wp_of c144_25.eq_1
@[go_sem] def c144_26_wp := wp_of c144_26.eq_1
@[go_sem] def c144_27_wp := wp_of c144_27.eq_1
@[go_sem] def c144_28_wp := wp_of c144_28.eq_1
@[go_sem] def c144_29_wp := wp_of c144_29.eq_1
@[go_sem] def c144_30_wp := wp_of c144_30.eq_1
@[go_sem] def c144_31_wp := wp_of c144_31.eq_1
@[go_sem] def c144_32_wp := wp_of c144_32.eq_1
def c144 : AFn := ⟨35, [.t 2, .t 3], c144_32⟩
theorem c144_ok : compF Tryz.prog Tryz.f144 = some c144 := by kernel_rfl
theorem a144 {args : List AV} {σ : ASt} {R : AV → ASt → Prop} (hl : args.length ≤ 35) (h : c144_32.wp Tryz.prog (RetQ [.t 2, .t 3] R) (init args) σ) : ACalls Tryz.prog 144 args σ R := acalls_of Tryz.func144 c144_ok hl h
end Go.A
namespace Go.A
open Go.Proofs
def lettersF : Nat → Nat → List UInt8
 | 0, _ => []
 | k + 1, n => if n = 0 then [] else lettersF k ((n - 1) / 26) ++ [UInt8.ofNat (65 + (n - 1) % 26)]
def lettersP (col : Int) : List UInt8 := if col < 0 ∨ 700 ≤ col then [] else lettersF 4 (col + 1).toNat
theorem letters_ok (col : Int) : Pure Tryz.prog 104 [.int .i64 col] (.str (lettersP col)) := by
 intro σ
 obtain ⟨q, hq⟩ : ∃ q, lettersP col = q := ⟨_, rfl⟩
 rw [hq]
 unfold lettersP at hq
 refine a104 (by simp) ?_
 by_cases hc : col < 0 ∨ 700 ≤ col
 ·rw [if_pos hc] at hq
  subst hq
  repeat' (first | (simp (disch := first | assumption | omega) only [go_sem, reduceCtorEq, Nat.reduceEqDiff, ↓reduceIte]) | with_reducible refine gC_d (fun h => ?_) (fun h => ?_) | with_reducible refine gC_dn (fun h => ?_) (fun h => ?_) | with_reducible refine condC_d (fun h => ?_) (fun h => ?_) | with_reducible refine condC_n (fun h => ?_) (fun h => ?_) | with_reducible refine condC_b (fun h => ?_) (fun h => ?_) | with_reducible refine boxC_by ?_ fun b hb => ?_)
  all_goals first | (exfalso; omega) | exact retC_by (Drop.refl _) (.refl _) ⟨rfl, rfl⟩
 ·rw [if_neg hc] at hq
  obtain ⟨N, hN⟩ : ∃ N, (col + 1).toNat = N := ⟨_, rfl⟩
  rw [hN] at hq
  have h0 : ¬ col < 0 := by omega
  have h1 : ¬ 700 ≤ col := by omega
  have hc1 : col + 1 = (N : Int) := by omega
  simp (disch := first | assumption | omega) only [go_sem, reduceCtorEq, Nat.reduceEqDiff, ↓reduceIte, h0, h1, hc1]
  refine wp_loop_by (fun (i : Nat × Nat × List UInt8) a σ' => i.2.1 < 26 ^ i.1 ∧ i.1 ≤ 4 ∧ i.2.2.length + i.1 = 4 ∧ q = lettersF i.1 i.2.1 ++ i.2.2 ∧ a 0 = .int .i64 i.2.1 ∧ a 3 = .str i.2.2 ∧ σ' = σ) (fun i => i.1) (4, N, []) (Dr.now ⟨by dsimp only; omega, by simp, by simp, by simp [hq], ?_, ?_, rfl⟩) ?_
  ·simp (disch := first | assumption | omega) only [go_sem, ↓reduceIte]
  ·simp (disch := first | assumption | omega) only [go_sem, reduceCtorEq, Nat.reduceEqDiff, ↓reduceIte]
  rintro ⟨k, n, s⟩ a σ1 ⟨hn, hk, hs, hqe, h0, h3, rfl⟩
  dsimp only at hn hk hs hqe h0 h3
  by_cases hz : n = 0
  ·subst hz
   simp (disch := first | assumption | omega) only [go_sem, Nat.reduceEqDiff, Int.reduceLT, ↓reduceIte, h0, h3]
   refine retC_by (Drop.refl _) (.refl _) ⟨?_, rfl⟩
   have e : lettersF k 0 = [] := by cases k <;> rfl
   rw [hqe, e]; rfl
  ·obtain ⟨m, rfl⟩ : ∃ m, n = m + 1 := ⟨n - 1, by omega⟩
   have hb : (m : Int) < 456976 := by
    have := Nat.pow_le_pow_right (n := 26) (by omega) hk
    omega
   have hp : 0 < (m : Int) + 1 := by omega
   have e1 : (m : Int) + 1 - 1 = m := by omega
   have e2 : (m : Int).tmod 26 = ((m % 26 : Nat) : Int) := rfl
   have e3 : (m : Int).tdiv 26 = ((m / 26 : Nat) : Int) := rfl
   have e4 : (65 + ((m % 26 : Nat) : Int)).toNat = 65 + m % 26 := by omega
   have hk0 : k ≠ 0 := by rintro rfl; simp at hn
   obtain ⟨k, rfl⟩ : ∃ k', k = k' + 1 := ⟨k - 1, by omega⟩
   have hs1 : 1 + s.length ≤ 9223372036854775807 := by omega
   simp (disch := first | assumption | omega) only [go_sem, reduceCtorEq, Nat.reduceEqDiff, ↓reduceIte, Bool.true_and, h0, h3, hp, e1, e2, e3, e4]
   refine ⟨(k, m / 26, UInt8.ofNat (65 + m % 26) :: s), by dsimp only; omega, Dr.now ⟨?_, by dsimp only; omega, by simp; omega, ?_, ?_, ?_, rfl⟩⟩
   ·dsimp only
    rw [Nat.pow_succ] at hn
    omega
   ·dsimp only
    rw [hqe, lettersF, if_neg (by omega)]
    simp
   ·simp (disch := first | assumption | omega) only [go_sem, ↓reduceIte]
   ·simp (disch := first | assumption | omega) only [go_sem, reduceCtorEq, Nat.reduceEqDiff, ↓reduceIte]
def colF : Int → List UInt8 → Option Int
 | n, [] => some n
 | n, c :: cs => if letterP c.toNat = 0 ∨ 700 < n then none else colF (26 * n + letterP c.toNat) cs
def columnP (l : List UInt8) : Int × Bool :=
 match colF 0 l with
 | some n => if n < 1 ∨ 700 < n then (0, false) else (n - 1, true)
 | none => (0, false)
theorem letterP_bd (c : Int) : 0 ≤ letterP c ∧ letterP c ≤ 26 := by
 unfold letterP
 split
 ·omega
 ·split <;> omega
theorem column_ok (l : List UInt8) (hl : l.length ≤ 9223372036854775807) : Pure Tryz.prog 144 [.str l] (.tuple [.int .i64 (columnP l).1, .bool (columnP l).2]) := by
 intro σ
 obtain ⟨q, hq⟩ : ∃ q, columnP l = q := ⟨_, rfl⟩
 rw [hq]
 refine a144 (by simp) ?_
 simp (disch := first | assumption | omega) only [go_sem, reduceCtorEq, ↓reduceIte]
 refine s2b_shr ?_
 simp (disch := first | assumption | omega) only [go_sem, ↓reduceIte]
 refine wp_loop_by (fun (i : Nat × Int) a σ' => i.1 ≤ l.length ∧ 0 ≤ i.2 ∧ i.2 ≤ 18226 ∧ colF 0 l = colF i.2 (l.drop i.1) ∧ a 4 = .int .i64 i.2 ∧ a 8 = .sl .shr (bytesAV l) ∧ a 9 = .int .i64 l.length ∧ a 10 = .int .i64 i.1 ∧ a 2 = .int .i64 0 ∧ a 3 = .bool false ∧ σ' = σ) (fun i => l.length - i.1) (0, 0) (Dr.now ⟨by simp, by simp, by simp, rfl, ?_, ?_, ?_, ?_, ?_, ?_, rfl⟩) ?_
 ·simp (disch := first | assumption | omega) only [go_sem, Nat.reduceEqDiff, ↓reduceIte]
 ·simp (disch := first | assumption | omega) only [go_sem, Nat.reduceEqDiff, ↓reduceIte]
 ·simp (disch := first | assumption | omega) only [go_sem, Nat.reduceEqDiff, ↓reduceIte]
 ·simp (disch := first | assumption | omega) only [go_sem, ↓reduceIte]
 ·simp (disch := first | assumption | omega) only [go_sem, Nat.reduceEqDiff, ↓reduceIte]
 ·simp (disch := first | assumption | omega) only [go_sem, Nat.reduceEqDiff, ↓reduceIte]
 rintro ⟨i, n⟩ a σ1 ⟨hi, hn0, hn1, hcol, h4, h8, h9, h10, h2, h3, rfl⟩
 dsimp only at hi hn0 hn1 hcol h4 h10
 by_cases hlt : i < l.length
 ·have hidx : l[i]? = some (l[i]'hlt) := List.getElem?_eq_getElem hlt
  obtain ⟨c, hc⟩ : ∃ c, l[i]'hlt = c := ⟨_, rfl⟩
  rw [hc] at hidx
  have hcb : (c.toNat : Int) ≤ 255 := by have := c.toNat_lt; omega
  have hbd := letterP_bd c.toNat
  rw [List.drop_eq_getElem_cons hlt, hc, colF] at hcol
  repeat' (first | (simp (disch := first | assumption | omega) only [go_sem, Nat.reduceEqDiff, ↓reduceIte, h4, h8, h9, h10, hidx]) | refine (letter_ok c.toNat (by omega) hcb).use ?_ | with_reducible refine gC_d (fun h => ?_) (fun h => ?_) | with_reducible refine gC_dn (fun h => ?_) (fun h => ?_) | with_reducible refine condC_d (fun h => ?_) (fun h => ?_) | with_reducible refine condC_n (fun h => ?_) (fun h => ?_) | with_reducible refine condC_b (fun h => ?_) (fun h => ?_) | with_reducible refine boxC_by ?_ fun b hb => ?_)
  ·rw [if_pos (by omega)] at hcol
   unfold columnP at hq
   rw [hcol] at hq
   subst hq
   exact retC_by (Drop.refl _) (.refl _) ⟨rfl, rfl⟩
  ·rename_i hz
   rw [if_neg (by omega)] at hcol
   refine ⟨(i + 1, 26 * n + letterP c.toNat), by dsimp only; omega, Dr.now ⟨by dsimp only; omega, by dsimp only; omega, by dsimp only; omega, hcol, ?_, ?_, ?_, ?_, ?_, ?_, rfl⟩⟩
   ·simp (disch := first | assumption | omega) only [go_sem, Nat.reduceEqDiff, ↓reduceIte]
   ·simp (disch := first | assumption | omega) only [go_sem, Nat.reduceEqDiff, ↓reduceIte, h8]
   ·simp (disch := first | assumption | omega) only [go_sem, Nat.reduceEqDiff, ↓reduceIte, h9]
   ·simp (disch := first | assumption | omega) only [go_sem, ↓reduceIte]
   ·simp (disch := first | assumption | omega) only [go_sem, Nat.reduceEqDiff, ↓reduceIte, h2]
   ·simp (disch := first | assumption | omega) only [go_sem, Nat.reduceEqDiff, ↓reduceIte, h3]
  ·rw [if_pos (by omega)] at hcol
   unfold columnP at hq
   rw [hcol] at hq
   subst hq
   exact retC_by (Drop.refl _) (.refl _) ⟨rfl, rfl⟩
 ·have e : l.drop i = [] := List.drop_eq_nil_of_le (by omega)
  rw [e, colF] at hcol
  unfold columnP at hq
  rw [hcol] at hq
  repeat' (first | (simp (disch := first | assumption | omega) only [go_sem, Nat.reduceEqDiff, ↓reduceIte, h4, h9, h10]) | with_reducible refine gC_d (fun h => ?_) (fun h => ?_) | with_reducible refine gC_dn (fun h => ?_) (fun h => ?_) | with_reducible refine condC_d (fun h => ?_) (fun h => ?_) | with_reducible refine condC_n (fun h => ?_) (fun h => ?_) | with_reducible refine condC_b (fun h => ?_) (fun h => ?_) | with_reducible refine boxC_by ?_ fun b hb => ?_)
  all_goals refine retC_by (Drop.refl _) (.refl _) ⟨?_, rfl⟩
  all_goals (simp only [resV_two] at *; split at hq) <;> first | (subst hq; rfl) | (exfalso; omega)
end Go.A
namespace Go.A
open Go.Proofs
/-! 126: tabular/addr.Read -/
def c126_0 : ACode := .ops [
 ⟨some 2, none, .e (.alloc [(.int .i64 0), (.int .i64 0), (.bool false), (.bool false)]), []⟩,
 ⟨some 3, none, .q (.mv (.v (.int .i64 0))), []⟩]
def c126_1 : ACode := .ops [
 ⟨some 4, none, .e (.alloc [(.int .i64 0), (.int .i64 0), (.bool false), (.bool false)]), []⟩]
def c126_2 : ACode := .ops [
 ⟨some 5, none, .q (.mv (.v (.int .i64 0))), []⟩]
def c126_3 : ACode := .ops [
 ⟨some 11, none, .q (.mv (.t 5)), []⟩,
 ⟨some 12, none, .q (.mv (.t 0)), []⟩,
 ⟨some 13, none, .q (.lenS (.t 12)), []⟩,
 ⟨some 14, none, .q (.bin .lss (.t 11) (.t 13)), []⟩,
 ⟨some 15, none, .q (.mv (.t 14)), []⟩,
 ⟨some 16, some (15, true), .q (.mv (.t 0)), []⟩,
 ⟨some 17, some (15, true), .q (.mv (.t 5)), []⟩,
 ⟨some 18, some (15, true), .q (.idx (.t 16) (.t 17)), []⟩,
 ⟨some 19, some (15, true), .q (.bin .eql (.t 18) (.v (.int .u8 36))), []⟩,
 ⟨some 20, none, .q (.pick (.t 15) (.t 19) (.v (.bool false))), []⟩]
def c126_4 : ACode := .ops [
 ⟨some 21, none, .q (.fa 3 (.t 4)), []⟩,
 ⟨none, none, .e (.store 1 (.t 21) (.v (.bool true))), []⟩]
def c126_5 : ACode := .ops [
 ⟨some 22, none, .q (.mv (.t 5)), []⟩,
 ⟨some 23, none, .q (.bin .add (.t 22) (.v (.int .i64 1))), []⟩,
 ⟨some 5, none, .q (.mv (.t 23)), []⟩]
def c126_6 : ACode := .seq c126_4 c126_5
def c126_7 : ACode := .cond (.t 20) c126_6 .skip
def c126_8 : ACode := .seq c126_3 c126_7
def c126_9 : ACode := .ops [
 ⟨some 24, none, .q (.mv (.t 5)), []⟩,
 ⟨some 6, none, .q (.mv (.t 24)), []⟩]
def c126_10 : ACode := .ops [
 ⟨some 25, none, .q (.mv (.t 5)), []⟩,
 ⟨some 26, none, .q (.mv (.t 0)), []⟩,
 ⟨some 27, none, .q (.lenS (.t 26)), []⟩,
 ⟨some 28, none, .q (.bin .lss (.t 25) (.t 27)), []⟩,
 ⟨some 29, none, .q (.mv (.t 28)), []⟩,
 ⟨some 30, some (29, true), .q (.mv (.t 0)), []⟩,
 ⟨some 31, some (29, true), .q (.mv (.t 5)), []⟩,
 ⟨some 32, some (29, true), .q (.idx (.t 30) (.t 31)), []⟩,
 ⟨some 33, some (29, true), .e (.call 143 [(.t 32)]), []⟩,
 ⟨some 34, some (29, true), .q (.bin .gtr (.t 33) (.v (.int .i64 0))), []⟩,
 ⟨some 35, none, .q (.pick (.t 29) (.t 34) (.v (.bool false))), []⟩]
def c126_11 : ACode := .cond (.t 35) .skip (.exit 0)
def c126_12 : ACode := .seq c126_10 c126_11
def c126_13 : ACode := .ops [
 ⟨some 36, none, .q (.mv (.t 5)), []⟩,
 ⟨some 37, none, .q (.bin .add (.t 36) (.v (.int .i64 1))), []⟩,
 ⟨some 5, none, .q (.mv (.t 37)), []⟩]
def c126_14 : ACode := .block 1 c126_13
def c126_15 : ACode := .seq c126_12 c126_14
def c126_16 : ACode := .loop c126_15
def c126_17 : ACode := .block 0 c126_16
def c126_18 : ACode := .ops [
 ⟨some 39, none, .q (.mv (.t 0)), []⟩,
 ⟨some 40, none, .q (.mv (.t 6)), []⟩,
 ⟨some 41, none, .q (.mv (.t 5)), []⟩,
 ⟨some 42, none, .q (.sls (true, 0) (.t 39) (.t 40) (.t 41)), []⟩,
 ⟨some 43, none, .e (.call 144 [(.t 42)]), []⟩,
 ⟨some 38, none, .q (.mv (.t 43)), []⟩,
 ⟨some 44, none, .q (.ext 0 (.t 38)), []⟩,
 ⟨some 45, none, .q (.ext 1 (.t 38)), []⟩,
 ⟨some 7, none, .q (.mv (.t 44)), []⟩,
 ⟨some 8, none, .q (.mv (.t 45)), []⟩]
def c126_19 : ACode := .ops [
 ⟨some 46, none, .q (.mv (.t 8)), []⟩,
 ⟨some 47, none, .q (.un .not (.t 46)), []⟩]
def c126_20 : ACode := .ops [
 ⟨some 48, none, .q (.build [(.int .i64 0), (.int .i64 0), (.bool false), (.bool false)] []), []⟩,
 ⟨none, none, .e (.store 4 (.t 2) (.t 48)), []⟩,
 ⟨some 3, none, .q (.mv (.v (.int .i64 0))), []⟩]
def c126_21 : ACode := .seq c126_20 .ret
def c126_22 : ACode := .cond (.t 47) c126_21 .skip
def c126_23 : ACode := .seq c126_19 c126_22
def c126_24 : ACode := .ops [
 ⟨some 49, none, .q (.mv (.t 5)), []⟩,
 ⟨some 50, none, .q (.mv (.t 0)), []⟩,
 ⟨some 51, none, .q (.lenS (.t 50)), []⟩,
 ⟨some 52, none, .q (.bin .lss (.t 49) (.t 51)), []⟩,
 ⟨some 53, none, .q (.mv (.t 52)), []⟩,
 ⟨some 54, some (53, true), .q (.mv (.t 0)), []⟩,
 ⟨some 55, some (53, true), .q (.mv (.t 5)), []⟩,
 ⟨some 56, some (53, true), .q (.idx (.t 54) (.t 55)), []⟩,
 ⟨some 57, some (53, true), .q (.bin .eql (.t 56) (.v (.int .u8 36))), []⟩,
 ⟨some 58, none, .q (.pick (.t 53) (.t 57) (.v (.bool false))), []⟩]
def c126_25 : ACode := .ops [
 ⟨some 59, none, .q (.fa 2 (.t 4)), []⟩,
 ⟨none, none, .e (.store 1 (.t 59) (.v (.bool true))), []⟩]
def c126_26 : ACode := .ops [
 ⟨some 60, none, .q (.mv (.t 5)), []⟩,
 ⟨some 61, none, .q (.bin .add (.t 60) (.v (.int .i64 1))), []⟩,
 ⟨some 5, none, .q (.mv (.t 61)), []⟩]
def c126_27 : ACode := .seq c126_25 c126_26
def c126_28 : ACode := .cond (.t 58) c126_27 .skip
def c126_29 : ACode := .seq c126_24 c126_28
def c126_30 : ACode := .ops [
 ⟨some 62, none, .q (.mv (.t 5)), []⟩,
 ⟨some 9, none, .q (.mv (.v (.int .i64 0))), []⟩,
 ⟨some 10, none, .q (.mv (.t 62)), []⟩]
def c126_31 : ACode := .ops [
 ⟨some 63, none, .q (.mv (.t 5)), []⟩,
 ⟨some 64, none, .q (.mv (.t 0)), []⟩,
 ⟨some 65, none, .q (.lenS (.t 64)), []⟩,
 ⟨some 66, none, .q (.bin .lss (.t 63) (.t 65)), []⟩,
 ⟨some 67, none, .q (.mv (.t 66)), []⟩,
 ⟨some 68, some (67, true), .q (.mv (.t 0)), []⟩,
 ⟨some 69, some (67, true), .q (.mv (.t 5)), []⟩,
 ⟨some 70, some (67, true), .q (.idx (.t 68) (.t 69)), []⟩,
 ⟨some 71, some (67, true), .q (.bin .geq (.t 70) (.v (.int .u8 48))), []⟩,
 ⟨some 72, none, .q (.pick (.t 67) (.t 71) (.v (.bool false))), []⟩,
 ⟨some 73, none, .q (.mv (.t 72)), []⟩,
 ⟨some 74, some (73, true), .q (.mv (.t 0)), []⟩,
 ⟨some 75, some (73, true), .q (.mv (.t 5)), []⟩,
 ⟨some 76, some (73, true), .q (.idx (.t 74) (.t 75)), []⟩,
 ⟨some 77, some (73, true), .q (.bin .leq (.t 76) (.v (.int .u8 57))), []⟩,
 ⟨some 78, none, .q (.pick (.t 73) (.t 77) (.v (.bool false))), []⟩]
def c126_32 : ACode := .cond (.t 78) .skip (.exit 2)
def c126_33 : ACode := .seq c126_31 c126_32
def c126_34 : ACode := .ops [
 ⟨some 79, none, .q (.mv (.t 9)), []⟩,
 ⟨some 80, none, .q (.bin .mul (.v (.int .i64 10)) (.t 79)), []⟩,
 ⟨some 81, none, .q (.mv (.t 0)), []⟩,
 ⟨some 82, none, .q (.mv (.t 5)), []⟩,
 ⟨some 83, none, .q (.idx (.t 81) (.t 82)), []⟩,
 ⟨some 84, none, .q (.bin .sub (.t 83) (.v (.int .u8 48))), []⟩,
 ⟨some 85, none, .q (.conv .i64 (.t 84)), []⟩,
 ⟨some 86, none, .q (.bin .add (.t 80) (.t 85)), []⟩,
 ⟨some 87, none, .q (.mnx false (.t 86) (.v (.int .i64 3001))), []⟩,
 ⟨some 9, none, .q (.mv (.t 87)), []⟩]
def c126_35 : ACode := .ops [
 ⟨some 88, none, .q (.mv (.t 5)), []⟩,
 ⟨some 89, none, .q (.bin .add (.t 88) (.v (.int .i64 1))), []⟩,
 ⟨some 5, none, .q (.mv (.t 89)), []⟩]
def c126_36 : ACode := .seq c126_34 c126_35
def c126_37 : ACode := .block 3 c126_36
def c126_38 : ACode := .seq c126_33 c126_37
def c126_39 : ACode := .loop c126_38
def c126_40 : ACode := .block 2 c126_39
def c126_41 : ACode := .ops [
 ⟨some 90, none, .q (.mv (.t 9)), []⟩,
 ⟨some 91, none, .q (.bin .lss (.t 90) (.v (.int .i64 1))), []⟩,
 ⟨some 92, none, .q (.mv (.t 91)), []⟩,
 ⟨some 93, some (92, false), .q (.mv (.t 9)), []⟩,
 ⟨some 94, some (92, false), .q (.bin .gtr (.t 93) (.v (.int .i64 3000))), []⟩,
 ⟨some 95, none, .q (.pick (.t 92) (.v (.bool true)) (.t 94)), []⟩,
 ⟨some 96, none, .q (.mv (.t 95)), []⟩,
 ⟨some 97, some (96, false), .q (.mv (.t 0)), []⟩,
 ⟨some 98, some (96, false), .q (.mv (.t 10)), []⟩,
 ⟨some 99, some (96, false), .q (.idx (.t 97) (.t 98)), []⟩,
 ⟨some 100, some (96, false), .q (.bin .eql (.t 99) (.v (.int .u8 48))), []⟩,
 ⟨some 101, none, .q (.pick (.t 96) (.v (.bool true)) (.t 100)), []⟩,
 ⟨some 102, none, .q (.mv (.t 101)), []⟩,
 ⟨some 103, some (102, false), .q (.mv (.t 0)), []⟩,
 ⟨some 104, some (102, false), .q (.mv (.t 5)), []⟩,
 ⟨some 105, some (102, false), .e (.call 145 [(.t 103), (.t 104)]), []⟩,
 ⟨some 106, some (102, false), .e (.call 143 [(.t 105)]), []⟩,
 ⟨some 107, some (102, false), .q (.bin .gtr (.t 106) (.v (.int .i64 0))), []⟩,
 ⟨some 108, none, .q (.pick (.t 102) (.v (.bool true)) (.t 107)), []⟩,
 ⟨some 109, none, .q (.mv (.t 108)), []⟩,
 ⟨some 110, some (109, false), .q (.mv (.t 0)), []⟩,
 ⟨some 111, some (109, false), .q (.mv (.t 5)), []⟩,
 ⟨some 112, some (109, false), .e (.call 145 [(.t 110), (.t 111)]), []⟩,
 ⟨some 113, some (109, false), .q (.bin .eql (.t 112) (.v (.int .u8 95))), []⟩,
 ⟨some 114, none, .q (.pick (.t 109) (.v (.bool true)) (.t 113)), []⟩]
def c126_42 : ACode := .ops [
 ⟨some 115, none, .q (.build [(.int .i64 0), (.int .i64 0), (.bool false), (.bool false)] []), []⟩,
 ⟨none, none, .e (.store 4 (.t 2) (.t 115)), []⟩,
 ⟨some 3, none, .q (.mv (.v (.int .i64 0))), []⟩]
def c126_43 : ACode := .seq c126_42 .ret
def c126_44 : ACode := .cond (.t 114) c126_43 .skip
def c126_45 : ACode := .seq c126_41 c126_44
def c126_46 : ACode := .ops [
 ⟨some 116, none, .q (.mv (.t 9)), []⟩,
 ⟨some 117, none, .q (.bin .sub (.t 116) (.v (.int .i64 1))), []⟩,
 ⟨some 118, none, .q (.mv (.t 7)), []⟩,
 ⟨some 119, none, .q (.fa 0 (.t 4)), []⟩,
 ⟨none, none, .e (.store 1 (.t 119) (.t 117)), []⟩,
 ⟨some 120, none, .q (.fa 1 (.t 4)), []⟩,
 ⟨none, none, .e (.store 1 (.t 120) (.t 118)), []⟩]
def c126_47 : ACode := .ops [
 ⟨some 121, none, .q (.ld (some 4) (.t 4)), []⟩,
 ⟨some 122, none, .q (.mv (.t 5)), []⟩,
 ⟨none, none, .e (.store 4 (.t 2) (.t 121)), []⟩,
 ⟨some 3, none, .q (.mv (.t 122)), []⟩]
def c126_48 : ACode := .seq c126_47 .ret
def c126_49 : ACode := .seq c126_46 c126_48
def c126_50 : ACode := .seq c126_45 c126_49
def c126_51 : ACode := .seq c126_40 c126_50
def c126_52 : ACode := .seq c126_30 c126_51
def c126_53 : ACode := .seq c126_29 c126_52
def c126_54 : ACode := .seq c126_23 c126_53
def c126_55 : ACode := .seq c126_18 c126_54
def c126_56 : ACode := .seq c126_17 c126_55
def c126_57 : ACode := .seq c126_9 c126_56
def c126_58 : ACode := .seq c126_8 c126_57
def c126_59 : ACode := .seq c126_2 c126_58
def c126_60 : ACode := .seq c126_1 c126_59
def c126_61 : ACode := .seq c126_0 c126_60
@[go_sem] def c126_0_wp := wp_of c126_0.eq_1
@[go_sem] def c126_1_wp := wp_of c126_1.eq_1
@[go_sem] def c126_2_wp := wp_of c126_2.eq_1
@[go_sem] def c126_3_wp := wp_of c126_3.eq_1
@[go_sem] def c126_4_wp := wp_of c126_4.eq_1
@[go_sem] def c126_5_wp := wp_of c126_5.eq_1
@[go_sem] def c126_6_wp := wp_of c126_6.eq_1
@[go_sem] def c126_7_wp := wp_of c126_7.eq_1
@[go_sem] def c126_8_wp := wp_of c126_8.eq_1
@[go_sem] def c126_9_wp := wp_of c126_9.eq_1
@[go_sem] def c126_10_wp := wp_of c126_10.eq_1
@[go_sem] def c126_11_wp := wp_of c126_11.eq_1
@[go_sem] def c126_12_wp := wp_of c126_12.eq_1
@[go_sem] def c126_13_wp := wp_of c126_13.eq_1
@[go_sem] def c126_14_wp := wp_of c126_14.eq_1
@[go_sem] def c126_15_wp := wp_of c126_15.eq_1
@[go_sem] def c126_16_wp := wp_of c126_16.eq_1
@[go_sem] def c126_17_wp := wp_of c126_17.eq_1
@[go_sem] def c126_18_wp := wp_of c126_18.eq_1
@[go_sem] def c126_19_wp := wp_of c126_19.eq_1
@[go_sem] def c126_20_wp := wp_of c126_20.eq_1
@[go_sem] def c126_21_wp := wp_of c126_21.eq_1
@[go_sem] def c126_22_wp := wp_of c126_22.eq_1
@[go_sem] def c126_23_wp := wp_of c126_23.eq_1
@[go_sem] def c126_24_wp := wp_of c126_24.eq_1
@[go_sem] def c126_25_wp := wp_of c126_25.eq_1
@[go_sem] def c126_26_wp := wp_of c126_26.eq_1
@[go_sem] def c126_27_wp := wp_of c126_27.eq_1
@[go_sem] def c126_28_wp := wp_of c126_28.eq_1
@[go_sem] def c126_29_wp := wp_of c126_29.eq_1
@[go_sem] def c126_30_wp := wp_of c126_30.eq_1
@[go_sem] def c126_31_wp := wp_of c126_31.eq_1
@[go_sem] def c126_32_wp := wp_of c126_32.eq_1
@[go_sem] def c126_33_wp := wp_of c126_33.eq_1
@[go_sem] def c126_34_wp := wp_of c126_34.eq_1
@[go_sem] def c126_35_wp := wp_of c126_35.eq_1
@[go_sem] def c126_36_wp := wp_of c126_36.eq_1
@[go_sem] def c126_37_wp := wp_of c126_37.eq_1
@[go_sem] def c126_38_wp := wp_of c126_38.eq_1
@[go_sem] def c126_39_wp := wp_of c126_39.eq_1
@[go_sem] def c126_40_wp := wp_of c126_40.eq_1
@[go_sem] def c126_41_wp := wp_of c126_41.eq_1
@[go_sem] def c126_42_wp := wp_of c126_42.eq_1
@[go_sem] def c126_43_wp := wp_of c126_43.eq_1
@[go_sem] def c126_44_wp := wp_of c126_44.eq_1
@[go_sem] def c126_45_wp := wp_of c126_45.eq_1
@[go_sem] def c126_46_wp := wp_of c126_46.eq_1
@[go_sem] def c126_47_wp := wp_of c126_47.eq_1
@[go_sem] def c126_48_wp := wp_of c126_48.eq_1
@[go_sem] def c126_49_wp := wp_of c126_49.eq_1
@[go_sem] def c126_50_wp := wp_of c126_50.eq_1
@[go_sem] def c126_51_wp := wp_of c126_51.eq_1
@[go_sem] def c126_52_wp := wp_of c126_52.eq_1
@[go_sem] def c126_53_wp := wp_of c126_53.eq_1
@[go_sem] def c126_54_wp := wp_of c126_54.eq_1
@[go_sem] def c126_55_wp := wp_of c126_55.eq_1
@[go_sem] def c126_56_wp := wp_of c126_56.eq_1
@[go_sem] def c126_57_wp := wp_of c126_57.eq_1
@[go_sem] def c126_58_wp := wp_of c126_58.eq_1
@[go_sem] def c126_59_wp := wp_of c126_59.eq_1
@[go_sem] def c126_60_wp := wp_of c126_60.eq_1
@[go_sem] def c126_61_wp := wp_of c126_61.eq_1
def c126 : AFn := ⟨123, [.c 2 (some 4), .t 3], c126_61⟩
theorem c126_ok : compF Tryz.prog Tryz.f126 = some c126 := by kernel_rfl
theorem a126 {args : List AV} {σ : ASt} {R : AV → ASt → Prop} (hl : args.length ≤ 123) (h : c126_61.wp Tryz.prog (RetQ [.c 2 (some 4), .t 3] R) (init args) σ) : ACalls Tryz.prog 126 args σ R := acalls_of Tryz.func126 c126_ok hl h
/-! 145: tabular/addr.at -/
def c145_0 : ACode := .ops [
 ⟨some 4, none, .q (.mv (.v (.int .u8 0))), []⟩]
def c145_1 : ACode := .ops [
 ⟨some 5, none, .q (.mv (.t 1)), []⟩,
 ⟨some 6, none, .q (.mv (.t 0)), []⟩,
 ⟨some 7, none, .q (.lenS (.t 6)), []⟩,
 ⟨some 8, none, .q (.bin .lss (.t 5) (.t 7)), []⟩]
def c145_2 : ACode := .ops [
 ⟨some 9, none, .q (.mv (.t 0)), []⟩,
 ⟨some 10, none, .q (.mv (.t 1)), []⟩,
 ⟨some 11, none, .q (.idx (.t 9) (.t 10)), []⟩,
 ⟨some 4, none, .q (.mv (.t 11)), []⟩]
def c145_3 : ACode := .seq c145_2 .ret
def c145_4 : ACode := .cond (.t 8) c145_3 .skip
def c145_5 : ACode := .seq c145_1 c145_4
def c145_6 : ACode := .ops [
 ⟨some 4, none, .q (.mv (.v (.int .u8 0))), []⟩]
def c145_7 : ACode := .seq c145_6 .ret
def c145_8 : ACode := .seq c145_5 c145_7
def c145_9 : ACode := .seq c145_0 c145_8
@[go_sem] def c145_0_wp := wp_of c145_0.eq_1
@[go_sem] def c145_1_wp := wp_of c145_1.eq_1
@[go_sem] def c145_2_wp := wp_of c145_2.eq_1
@[go_sem] def c145_3_wp := wp_of c145_3.eq_1
@[go_sem] def c145_4_wp := wp_of c145_4.eq_1
@[go_sem] def c145_5_wp := wp_of c145_5.eq_1
@[go_sem] def c145_6_wp := wp_of c145_6.eq_1
@[go_sem] def c145_7_wp := wp_of c145_7.eq_1
@[go_sem] def c145_8_wp := wp_of c145_8.eq_1
@[go_sem] def c145_9_wp := wp_of c145_9.eq_1
def c145 : AFn := ⟨12, [.t 4], c145_9⟩
theorem c145_ok : compF Tryz.prog Tryz.f145 = some c145 := by kernel_rfl
theorem a145 {args : List AV} {σ : ASt} {R : AV → ASt → Prop} (hl : args.length ≤ 12) (h : c145_9.wp Tryz.prog (RetQ [.t 4] R) (init args) σ) : ACalls Tryz.prog 145 args σ R := acalls_of Tryz.func145 c145_ok hl h
end Go.A
namespace Go.A
open Go.Proofs
def atP (l : List UInt8) (i : Nat) : Int := match l[i]? with
 | some c => c.toNat
 | none => 0
theorem atP_bd (l : List UInt8) (i : Nat) : 0 ≤ atP l i ∧ atP l i ≤ 255 := by
 unfold atP
 split
 ·rename_i c _; have := c.toNat_lt; omega
 ·omega
theorem at_ok (l : List UInt8) (i : Nat) (hl : l.length ≤ 9223372036854775807) (hi : i ≤ l.length) : Pure Tryz.prog 145 [.str l, .int .i64 i] (.int .u8 (atP l i)) := by
 intro σ
 refine a145 (by simp) ?_
 unfold atP
 by_cases hlt : i < l.length
 ·have hidx : l[i]? = some (l[i]'hlt) := List.getElem?_eq_getElem hlt
  rw [hidx]
  simp (disch := first | assumption | omega) only [go_sem, reduceCtorEq, Nat.reduceEqDiff, ↓reduceIte, hidx]
  exact retC_by (Drop.refl _) (.refl _) ⟨rfl, rfl⟩
 ·rw [List.getElem?_eq_none (by omega)]
  simp (disch := first | assumption | omega) only [go_sem, reduceCtorEq, Nat.reduceEqDiff, ↓reduceIte]
  exact retC_by (Drop.refl _) (.refl _) ⟨rfl, rfl⟩
def runL (p : UInt8 → Bool) : List UInt8 → Nat
 | [] => 0
 | c :: cs => if p c then runL p cs + 1 else 0
theorem runL_le (p : UInt8 → Bool) : ∀ l, runL p l ≤ l.length
 | [] => Nat.le_refl _
 | c :: cs => by
   have := runL_le p cs
   unfold runL
   split <;> simp <;> omega
def isL (c : UInt8) : Bool := decide (0 < letterP c.toNat)
def isD (c : UInt8) : Bool := decide (48 ≤ c.toNat ∧ c.toNat ≤ 57)
def numF : Int → List UInt8 → Int
 | n, [] => n
 | n, c :: cs => if isD c then numF (min (10 * n + (c.toNat - 48)) 3001) cs else n
def readQ (l : List UInt8) (i : Nat) (col : Int) (ar ac : Bool) : Ref × Int :=
 if numF 0 (l.drop i) < 1 ∨ 3000 < numF 0 (l.drop i) ∨ atP l i = 48 ∨ 0 < letterP (atP l (i + runL isD (l.drop i))) ∨ atP l (i + runL isD (l.drop i)) = 95 then (.zero, 0)
 else (⟨numF 0 (l.drop i) - 1, col, ar, ac⟩, (i + runL isD (l.drop i) : Nat))
set_option maxHeartbeats 1000000 in
theorem read2 (l : List UInt8) (hl : l.length ≤ 9223372036854775000) (σ : ASt) (b0 b1 : Nat) (hb0 : σ b0 = none) (hb1 : σ b1 = none) (n1 : b0 ≠ b1) (i2 : Nat) (hi2 : i2 ≤ l.length) (col : Int) (ar ac : Bool) (q : Ref × Int) (hq : readQ l i2 col ar ac = q)
  (a : AFr) (h0 : a 0 = .str l) (h2 : a 2 = .ptr b0 0) (h4 : a 4 = .ptr b1 0) (h5 : a 5 = .int .i64 i2) (h7 : a 7 = .int .i64 col) :
  ACode.wp Tryz.prog c126_52 (RetQ [.c 2 (some 4), .t 3] fun v σ' => v = .tuple [refAV q.1, .int .i64 q.2] ∧ σ' = σ) a
   ((σ.set b0 (some (.obj [.int .i64 0, .int .i64 0, .bool false, .bool false]))).set b1 (some (.obj [.int .i64 0, .int .i64 0, .bool ar, .bool ac]))) := by
 have n2 : b1 ≠ b0 := Ne.symm n1
 obtain ⟨F, hF⟩ : ∃ F, F = ACode.wp Tryz.prog c126_50 := ⟨_, rfl⟩
 have fin : ∀ (i : Nat) (n : Int) (a : AFr), i2 ≤ i → i ≤ l.length → 0 ≤ n → n ≤ 3001 → (n = 0 ∨ i2 < i) → i2 + runL isD (l.drop i2) = i → numF 0 (l.drop i2) = n →
   a 0 = .str l → a 2 = .ptr b0 0 → a 4 = .ptr b1 0 → a 5 = .int .i64 i → a 7 = .int .i64 col → a 9 = .int .i64 n → a 10 = .int .i64 i2 →
   F (RetQ [.c 2 (some 4), .t 3] fun v σ' => v = .tuple [refAV q.1, .int .i64 q.2] ∧ σ' = σ) a
    ((σ.set b0 (some (.obj [.int .i64 0, .int .i64 0, .bool false, .bool false]))).set b1 (some (.obj [.int .i64 0, .int .i64 0, .bool ar, .bool ac]))) := by
  rw [hF]
  intro i n a hi hil hn0 hn1 hni hrun hnum h0 h2 h4 h5 h7 h9 h10
  unfold readQ at hq
  rw [hrun, hnum] at hq
  by_cases hn : n < 1
  ·rw [if_pos (.inl hn)] at hq
   subst hq
   repeat' (first | (simp (disch := first | assumption | omega) only [go_sem, Nat.reduceEqDiff, Nat.reduceAdd, Nat.reduceLeDiff, ↓reduceIte, Bool.true_and, h2, h9, hn, refAV]) | with_reducible refine gC_d (fun h => ?_) (fun h => ?_) | with_reducible refine gC_dn (fun h => ?_) (fun h => ?_) | with_reducible refine condC_d (fun h => ?_) (fun h => ?_) | with_reducible refine condC_n (fun h => ?_) (fun h => ?_) | with_reducible refine condC_b (fun h => ?_) (fun h => ?_) | with_reducible refine boxC_by ?_ fun b hb => ?_)
   all_goals exact retC_by (by repeat' (first | exact Drop.refl _ | with_reducible refine Drop.off ?_ (by assumption))) (.refl _) ⟨rfl, rfl⟩
  ·have hidx : l[i2]? = some (l[i2]'(by omega)) := List.getElem?_eq_getElem (by omega)
   obtain ⟨c, hc⟩ : ∃ c, l[i2]'(by omega) = c := ⟨_, rfl⟩
   rw [hc] at hidx
   have hat : atP l i2 = c.toNat := by unfold atP; rw [hidx]
   rw [hat] at hq
   have hb := atP_bd l i
   repeat' (first | (simp (disch := first | assumption | omega) only [go_sem, reduceCtorEq, Nat.reduceEqDiff, Nat.reduceAdd, Nat.reduceLeDiff, ↓reduceIte, Bool.true_and, h0, h2, h4, h5, h7, h9, h10, hn, hidx, refAV]) | refine (at_ok l i (by omega) hil).use ?_ | refine (letter_ok _ hb.1 hb.2).use ?_ | with_reducible refine gC_d (fun h => ?_) (fun h => ?_) | with_reducible refine gC_dn (fun h => ?_) (fun h => ?_) | with_reducible refine condC_d (fun h => ?_) (fun h => ?_) | with_reducible refine condC_n (fun h => ?_) (fun h => ?_) | with_reducible refine condC_b (fun h => ?_) (fun h => ?_) | with_reducible refine boxC_by ?_ fun b hb => ?_)
   all_goals first
    | (rw [if_pos (by omega)] at hq
       subst hq
       exact retC_by (by repeat' (first | exact Drop.refl _ | with_reducible refine Drop.off ?_ (by assumption))) (.refl _) ⟨rfl, rfl⟩)
    | (rw [if_neg (by omega)] at hq
       subst hq
       exact retC_by (by repeat' (first | exact Drop.refl _ | with_reducible refine Drop.off ?_ (by assumption))) (.refl _) ⟨rfl, rfl⟩)
 simp (disch := first | assumption | omega) only [go_sem, Nat.reduceEqDiff, ↓reduceIte, h5]
 rw [← hF]
 refine wp_loop_by (fun (i : Nat × Int) a σ' => i2 ≤ i.1 ∧ i.1 ≤ l.length ∧ 0 ≤ i.2 ∧ i.2 ≤ 3001 ∧ (i.2 = 0 ∨ i2 < i.1) ∧ i2 + runL isD (l.drop i2) = i.1 + runL isD (l.drop i.1) ∧ numF 0 (l.drop i2) = numF i.2 (l.drop i.1) ∧
  a 0 = .str l ∧ a 2 = .ptr b0 0 ∧ a 4 = .ptr b1 0 ∧ a 5 = .int .i64 i.1 ∧ a 7 = .int .i64 col ∧ a 9 = .int .i64 i.2 ∧ a 10 = .int .i64 i2 ∧
  σ' = (σ.set b0 (some (.obj [.int .i64 0, .int .i64 0, .bool false, .bool false]))).set b1 (some (.obj [.int .i64 0, .int .i64 0, .bool ar, .bool ac]))) (fun i => l.length - i.1) (i2, 0)
  (Dr.now ⟨Nat.le_refl _, hi2, by simp, by simp, .inl rfl, rfl, rfl, ?_, ?_, ?_, ?_, ?_, ?_, ?_, rfl⟩) ?_
 ·simp (disch := first | assumption | omega) only [go_sem, reduceCtorEq, ↓reduceIte, h0]
 ·simp (disch := first | assumption | omega) only [go_sem, Nat.reduceEqDiff, ↓reduceIte, h2]
 ·simp (disch := first | assumption | omega) only [go_sem, Nat.reduceEqDiff, ↓reduceIte, h4]
 ·simp (disch := first | assumption | omega) only [go_sem, Nat.reduceEqDiff, ↓reduceIte, h5]
 ·simp (disch := first | assumption | omega) only [go_sem, Nat.reduceEqDiff, ↓reduceIte, h7]
 ·simp (disch := first | assumption | omega) only [go_sem, Nat.reduceEqDiff, ↓reduceIte]
 ·simp (disch := first | assumption | omega) only [go_sem, ↓reduceIte]
 clear h0 h2 h4 h5 h7
 rintro ⟨i, n⟩ a σ1 ⟨hi, hil, hn0, hn1, hni, hrun, hnum, h0, h2, h4, h5, h7, h9, h10, rfl⟩
 dsimp only at hi hil hn0 hn1 hni hrun hnum h5 h9
 by_cases hlt : i < l.length
 ·have hidx : l[i]? = some (l[i]'hlt) := List.getElem?_eq_getElem hlt
  obtain ⟨c, hc⟩ : ∃ c, l[i]'hlt = c := ⟨_, rfl⟩
  rw [hc] at hidx
  have hcb : (c.toNat : Int) ≤ 255 := by have := c.toNat_lt; omega
  rw [List.drop_eq_getElem_cons hlt, hc, runL] at hrun
  rw [List.drop_eq_getElem_cons hlt, hc, numF] at hnum
  have hat : atP l i = c.toNat := by unfold atP; rw [hidx]
  by_cases hd : 48 ≤ (c.toNat : Int) ∧ (c.toNat : Int) ≤ 57
  ·have hD : isD c = true := by unfold isD; simp; omega
   rw [if_pos hD] at hrun hnum
   have hd1 := hd.1
   have hd2 := hd.2
   simp (disch := first | assumption | omega) only [go_sem, reduceCtorEq, Nat.reduceEqDiff, ↓reduceIte, h0, h5, h9, hidx, hd1, hd2]
   refine ⟨(i + 1, min (10 * n + (c.toNat - 48)) 3001), by dsimp only; omega, Dr.now ⟨by dsimp only; omega, by dsimp only; omega, by dsimp only; omega, by dsimp only; omega, by dsimp only; omega, by dsimp only; omega, hnum, ?_, ?_, ?_, ?_, ?_, ?_, ?_, rfl⟩⟩
   ·simp (disch := first | assumption | omega) only [go_sem, reduceCtorEq, ↓reduceIte, h0]
   ·simp (disch := first | assumption | omega) only [go_sem, Nat.reduceEqDiff, ↓reduceIte, h2]
   ·simp (disch := first | assumption | omega) only [go_sem, Nat.reduceEqDiff, ↓reduceIte, h4]
   ·simp (disch := first | assumption | omega) only [go_sem, ↓reduceIte]
   ·simp (disch := first | assumption | omega) only [go_sem, Nat.reduceEqDiff, ↓reduceIte, h7]
   ·simp (disch := first | assumption | omega) only [go_sem, Nat.reduceEqDiff, ↓reduceIte]
   ·simp (disch := first | assumption | omega) only [go_sem, Nat.reduceEqDiff, ↓reduceIte, h10]
  ·have hD : ¬ isD c = true := by unfold isD; simp; omega
   rw [if_neg hD] at hrun hnum
   repeat' (first | (simp (disch := first | assumption | omega) only [go_sem, reduceCtorEq, Nat.reduceEqDiff, ↓reduceIte, h0, h5, hidx]) | with_reducible refine gC_d (fun h => ?_) (fun h => ?_) | with_reducible refine gC_dn (fun h => ?_) (fun h => ?_) | with_reducible refine condC_d (fun h => ?_) (fun h => ?_) | with_reducible refine condC_n (fun h => ?_) (fun h => ?_) | with_reducible refine condC_b (fun h => ?_) (fun h => ?_) | with_reducible refine boxC_by ?_ fun b hb => ?_)
   all_goals first | (exfalso; omega) | skip
   all_goals refine fin i n _ hi hil hn0 hn1 hni (by omega) hnum ?_ ?_ ?_ ?_ ?_ ?_ ?_ <;> simp (disch := first | assumption | omega) only [go_sem, reduceCtorEq, Nat.reduceEqDiff, ↓reduceIte, h0, h2, h4, h5, h7, h9, h10]
 ·have e : l.drop i = [] := List.drop_eq_nil_of_le (by omega)
  rw [e, runL] at hrun
  rw [e, numF] at hnum
  simp (disch := first | assumption | omega) only [go_sem, reduceCtorEq, Nat.reduceEqDiff, ↓reduceIte, h0, h5]
  refine fin i n _ hi hil hn0 hn1 hni (by omega) hnum ?_ ?_ ?_ ?_ ?_ ?_ ?_ <;> simp (disch := first | assumption | omega) only [go_sem, reduceCtorEq, Nat.reduceEqDiff, ↓reduceIte, h0, h2, h4, h5, h7, h9, h10]
def readR (l : List UInt8) (i : Nat) (ac : Bool) : Ref × Int :=
 if (columnP ((l.take (i + runL isL (l.drop i))).drop i)).2 = false then (.zero, 0)
 else if atP l (i + runL isL (l.drop i)) = 36 then readQ l (i + runL isL (l.drop i) + 1) (columnP ((l.take (i + runL isL (l.drop i))).drop i)).1 true ac
 else readQ l (i + runL isL (l.drop i)) (columnP ((l.take (i + runL isL (l.drop i))).drop i)).1 false ac
set_option maxHeartbeats 1000000 in
theorem read1 (l : List UInt8) (hl : l.length ≤ 9223372036854775000) (σ : ASt) (b0 b1 : Nat) (hb0 : σ b0 = none) (hb1 : σ b1 = none) (n1 : b0 ≠ b1) (i0 : Nat) (hi0 : i0 ≤ l.length) (ac : Bool) (q : Ref × Int) (hq : readR l i0 ac = q)
  (a : AFr) (h0 : a 0 = .str l) (h2 : a 2 = .ptr b0 0) (h4 : a 4 = .ptr b1 0) (h5 : a 5 = .int .i64 i0) :
  ACode.wp Tryz.prog c126_57 (RetQ [.c 2 (some 4), .t 3] fun v σ' => v = .tuple [refAV q.1, .int .i64 q.2] ∧ σ' = σ) a
   ((σ.set b0 (some (.obj [.int .i64 0, .int .i64 0, .bool false, .bool false]))).set b1 (some (.obj [.int .i64 0, .int .i64 0, .bool false, .bool ac]))) := by
 have n2 : b1 ≠ b0 := Ne.symm n1
 obtain ⟨F2, hF2⟩ : ∃ F, F = ACode.wp Tryz.prog c126_52 := ⟨_, rfl⟩
 obtain ⟨F3, hF3⟩ : ∃ F, F = ACode.wp Tryz.prog c126_53 := ⟨_, rfl⟩
 obtain ⟨F4, hF4⟩ : ∃ F, F = ACode.wp Tryz.prog c126_54 := ⟨_, rfl⟩
 obtain ⟨F5, hF5⟩ : ∃ F, F = ACode.wp Tryz.prog c126_55 := ⟨_, rfl⟩
 have fin : ∀ (i : Nat) (a : AFr), i0 ≤ i → i ≤ l.length → i0 + runL isL (l.drop i0) = i → a 0 = .str l → a 2 = .ptr b0 0 → a 4 = .ptr b1 0 → a 5 = .int .i64 i → a 6 = .int .i64 i0 →
   F5 (RetQ [.c 2 (some 4), .t 3] fun v σ' => v = .tuple [refAV q.1, .int .i64 q.2] ∧ σ' = σ) a
    ((σ.set b0 (some (.obj [.int .i64 0, .int .i64 0, .bool false, .bool false]))).set b1 (some (.obj [.int .i64 0, .int .i64 0, .bool false, .bool ac]))) := by
  intro i a hi hil hrun h0 h2 h4 h5 h6
  unfold readR at hq
  rw [hrun] at hq
  obtain ⟨C, hC⟩ : ∃ C, columnP ((l.take i).drop i0) = C := ⟨_, rfl⟩
  rw [hC] at hq
  obtain ⟨col, ok⟩ := C
  rw [hF5, c126_55_wp, wp_seq', ← hF4]
  simp (disch := first | assumption | omega) only [go_sem, Nat.reduceEqDiff, ↓reduceIte, h0, h5, h6]
  refine (column_ok ((l.take i).drop i0) (by simp; omega)).use ?_
  rw [hC]
  simp (disch := first | assumption | omega) only [go_sem, Nat.reduceEqDiff, ↓reduceIte]
  rw [hF4, c126_54_wp, wp_seq', ← hF3]
  cases ok
  ·rw [if_pos rfl] at hq
   subst hq
   simp (disch := first | assumption | omega) only [go_sem, Nat.reduceEqDiff, Nat.reduceAdd, Nat.reduceLeDiff, ↓reduceIte, Bool.true_and, h2, refAV]
   exact retC_by (by repeat' (first | exact Drop.refl _ | with_reducible refine Drop.off ?_ (by assumption))) (.refl _) ⟨rfl, rfl⟩
  ·rw [if_neg (by simp)] at hq
   simp (disch := first | assumption | omega) only [go_sem, ↓reduceIte]
   rw [hF3, c126_53_wp, wp_seq', ← hF2]
   by_cases hlt : i < l.length
   ·have hidx : l[i]? = some (l[i]'hlt) := List.getElem?_eq_getElem hlt
    obtain ⟨c, hc⟩ : ∃ c, l[i]'hlt = c := ⟨_, rfl⟩
    rw [hc] at hidx
    have hat : atP l i = c.toNat := by unfold atP; rw [hidx]
    rw [hat] at hq
    by_cases h36 : (c.toNat : Int) = 36
    ·rw [if_pos h36] at hq
     simp (disch := first | assumption | omega) only [go_sem, reduceCtorEq, Nat.reduceEqDiff, Nat.reduceAdd, Nat.reduceLeDiff, ↓reduceIte, Bool.true_and, h0, h4, h5, hidx, h36, ASt.set_set]
     rw [hF2]
     refine read2 l hl σ b0 b1 hb0 hb1 n1 (i + 1) (by omega) col true ac q hq _ ?_ ?_ ?_ ?_ ?_ <;> simp (disch := first | assumption | omega) only [go_sem, reduceCtorEq, Nat.reduceEqDiff, ↓reduceIte, h0, h2, h4]
    ·rw [if_neg h36] at hq
     simp (disch := first | assumption | omega) only [go_sem, reduceCtorEq, Nat.reduceEqDiff, ↓reduceIte, h0, h5, hidx, h36]
     rw [hF2]
     refine read2 l hl σ b0 b1 hb0 hb1 n1 i (by omega) col false ac q hq _ ?_ ?_ ?_ ?_ ?_ <;> simp (disch := first | assumption | omega) only [go_sem, reduceCtorEq, Nat.reduceEqDiff, ↓reduceIte, h0, h2, h4, h5]
   ·have hat : atP l i = 0 := by unfold atP; rw [List.getElem?_eq_none (by omega)]
    rw [hat, if_neg (by omega)] at hq
    simp (disch := first | assumption | omega) only [go_sem, reduceCtorEq, Nat.reduceEqDiff, ↓reduceIte, h0, h5]
    rw [hF2]
    refine read2 l hl σ b0 b1 hb0 hb1 n1 i (by omega) col false ac q hq _ ?_ ?_ ?_ ?_ ?_ <;> simp (disch := first | assumption | omega) only [go_sem, reduceCtorEq, Nat.reduceEqDiff, ↓reduceIte, h0, h2, h4, h5]
 rw [c126_57_wp, wp_seq']
 simp (disch := first | assumption | omega) only [go_sem, ↓reduceIte, h5]
 rw [← hF5]
 refine wp_loop_by (fun (i : Nat) a σ' => i0 ≤ i ∧ i ≤ l.length ∧ i0 + runL isL (l.drop i0) = i + runL isL (l.drop i) ∧ a 0 = .str l ∧ a 2 = .ptr b0 0 ∧ a 4 = .ptr b1 0 ∧ a 5 = .int .i64 i ∧ a 6 = .int .i64 i0 ∧
  σ' = (σ.set b0 (some (.obj [.int .i64 0, .int .i64 0, .bool false, .bool false]))).set b1 (some (.obj [.int .i64 0, .int .i64 0, .bool false, .bool ac]))) (fun i => l.length - i) i0
  (Dr.now ⟨Nat.le_refl _, hi0, rfl, ?_, ?_, ?_, ?_, ?_, rfl⟩) ?_
 ·simp (disch := first | assumption | omega) only [go_sem, reduceCtorEq, ↓reduceIte, h0]
 ·simp (disch := first | assumption | omega) only [go_sem, Nat.reduceEqDiff, ↓reduceIte, h2]
 ·simp (disch := first | assumption | omega) only [go_sem, Nat.reduceEqDiff, ↓reduceIte, h4]
 ·simp (disch := first | assumption | omega) only [go_sem, Nat.reduceEqDiff, ↓reduceIte, h5]
 ·simp (disch := first | assumption | omega) only [go_sem, ↓reduceIte]
 clear h0 h2 h4 h5
 rintro i a σ1 ⟨hi, hil, hrun, h0, h2, h4, h5, h6, rfl⟩
 by_cases hlt : i < l.length
 ·have hidx : l[i]? = some (l[i]'hlt) := List.getElem?_eq_getElem hlt
  obtain ⟨c, hc⟩ : ∃ c, l[i]'hlt = c := ⟨_, rfl⟩
  rw [hc] at hidx
  have hcb : (c.toNat : Int) ≤ 255 := by have := c.toNat_lt; omega
  rw [List.drop_eq_getElem_cons hlt, hc, runL] at hrun
  simp (disch := first | assumption | omega) only [go_sem, reduceCtorEq, Nat.reduceEqDiff, ↓reduceIte, h0, h5, hidx]
  refine (letter_ok c.toNat (by omega) hcb).use ?_
  by_cases hL : 0 < letterP c.toNat
  ·rw [if_pos (by unfold isL; simpa using hL)] at hrun
   simp (disch := first | assumption | omega) only [go_sem, Nat.reduceEqDiff, ↓reduceIte, h5, hL]
   refine ⟨i + 1, by dsimp only; omega, Dr.now ⟨by omega, by omega, by omega, ?_, ?_, ?_, ?_, ?_, rfl⟩⟩
   ·simp (disch := first | assumption | omega) only [go_sem, reduceCtorEq, ↓reduceIte, h0]
   ·simp (disch := first | assumption | omega) only [go_sem, Nat.reduceEqDiff, ↓reduceIte, h2]
   ·simp (disch := first | assumption | omega) only [go_sem, Nat.reduceEqDiff, ↓reduceIte, h4]
   ·simp (disch := first | assumption | omega) only [go_sem, ↓reduceIte]
   ·simp (disch := first | assumption | omega) only [go_sem, Nat.reduceEqDiff, ↓reduceIte, h6]
  ·rw [if_neg (by unfold isL; simpa using hL)] at hrun
   simp (disch := first | assumption | omega) only [go_sem, Nat.reduceEqDiff, ↓reduceIte, hL]
   refine fin i _ hi hil (by omega) ?_ ?_ ?_ ?_ ?_ <;> simp (disch := first | assumption | omega) only [go_sem, reduceCtorEq, Nat.reduceEqDiff, ↓reduceIte, h0, h2, h4, h5, h6]
 ·have e : l.drop i = [] := List.drop_eq_nil_of_le (by omega)
  rw [e, runL] at hrun
  simp (disch := first | assumption | omega) only [go_sem, reduceCtorEq, Nat.reduceEqDiff, ↓reduceIte, h0, h5]
  refine fin i _ hi hil (by omega) ?_ ?_ ?_ ?_ ?_ <;> simp (disch := first | assumption | omega) only [go_sem, reduceCtorEq, Nat.reduceEqDiff, ↓reduceIte, h0, h2, h4, h5, h6]
def readP (l : List UInt8) : Ref × Int := if atP l 0 = 36 then readR l 1 true else readR l 0 false
theorem read_ok (l : List UInt8) (hl : l.length ≤ 9223372036854775000) : Pure Tryz.prog 126 [.str l] (.tuple [refAV (readP l).1, .int .i64 (readP l).2]) := by
 intro σ
 obtain ⟨q, hq⟩ : ∃ q, readP l = q := ⟨_, rfl⟩
 rw [hq]
 unfold readP at hq
 refine a126 (by simp) ?_
 obtain ⟨F, hF⟩ : ∃ F, F = ACode.wp Tryz.prog c126_57 := ⟨_, rfl⟩
 obtain ⟨F8, hF8⟩ : ∃ F, F = ACode.wp Tryz.prog c126_58 := ⟨_, rfl⟩
 obtain ⟨F9, hF9⟩ : ∃ F, F = ACode.wp Tryz.prog c126_59 := ⟨_, rfl⟩
 obtain ⟨F0, hF0⟩ : ∃ F, F = ACode.wp Tryz.prog c126_60 := ⟨_, rfl⟩
 rw [c126_61_wp, wp_seq', ← hF0]
 simp (disch := first | assumption | omega) only [go_sem]
 refine allocC_by fun b0 hb0 => ?_
 simp (disch := first | assumption | omega) only [go_sem]
 rw [hF0, c126_60_wp, wp_seq', ← hF9]
 simp (disch := first | assumption | omega) only [go_sem]
 refine allocC_by fun b1 hb1 => ?_
 obtain ⟨n1, n2, hb3⟩ := set_none hb1
 simp (disch := first | assumption | omega) only [go_sem]
 rw [hF9, c126_59_wp, wp_seq', ← hF8]
 simp (disch := first | assumption | omega) only [go_sem]
 rw [hF8, c126_58_wp, wp_seq', ← hF]
 by_cases hlt : 0 < l.length
 ·have hidx : l[0]? = some (l[0]'hlt) := List.getElem?_eq_getElem hlt
  obtain ⟨c, hc⟩ : ∃ c, l[0]'hlt = c := ⟨_, rfl⟩
  rw [hc] at hidx
  have hat : atP l 0 = c.toNat := by unfold atP; rw [hidx]
  have hlt' : (0 : Int) < l.length := by omega
  rw [hat] at hq
  by_cases h36 : (c.toNat : Int) = 36
  ·rw [if_pos h36] at hq
   simp (disch := first | assumption | omega) only [go_sem, reduceCtorEq, Nat.reduceEqDiff, Nat.reduceAdd, Nat.reduceLeDiff, ↓reduceIte, Int.reduceAdd, Bool.true_and, hlt', hidx, h36, ASt.set_set]
   rw [hF]
   refine read1 l hl σ b0 b1 hb0 hb3 n2 1 (by omega) true q hq _ ?_ ?_ ?_ ?_ <;> simp (disch := first | assumption | omega) only [go_sem, reduceCtorEq, Nat.reduceEqDiff, ↓reduceIte]
  ·rw [if_neg h36] at hq
   simp (disch := first | assumption | omega) only [go_sem, reduceCtorEq, Nat.reduceEqDiff, ↓reduceIte, hlt', hidx, h36]
   rw [hF]
   refine read1 l hl σ b0 b1 hb0 hb3 n2 0 (by omega) false q hq _ ?_ ?_ ?_ ?_ <;> simp (disch := first | assumption | omega) only [go_sem, reduceCtorEq, Nat.reduceEqDiff, ↓reduceIte]
 ·have hat : atP l 0 = 0 := by unfold atP; rw [List.getElem?_eq_none (by omega)]
  have hlt' : ¬ (0 : Int) < l.length := by omega
  rw [hat, if_neg (by omega)] at hq
  simp (disch := first | assumption | omega) only [go_sem, reduceCtorEq, Nat.reduceEqDiff, ↓reduceIte, hlt']
  rw [hF]
  refine read1 l hl σ b0 b1 hb0 hb3 n2 0 (by omega) false q hq _ ?_ ?_ ?_ ?_ <;> simp (disch := first | assumption | omega) only [go_sem, reduceCtorEq, Nat.reduceEqDiff, ↓reduceIte]
end Go.A
namespace Go.A
open Go.Proofs
/-! 58: (tabular/addr.Area).Rect -/
def c58_0 : ACode := .ops [
 ⟨some 1, none, .e (.box (.t 0)), []⟩,
 ⟨some 2, none, .e (.alloc [(.int .i64 0), (.int .i64 0), (.int .i64 0), (.int .i64 0)]), []⟩]
def c58_1 : ACode := .ops [
 ⟨some 3, none, .q (.ld (some 8) (.t 1)), []⟩,
 ⟨some 4, none, .e (.call 82 [(.t 3)]), []⟩,
 ⟨none, none, .e (.store 8 (.t 1) (.t 4)), []⟩]
def c58_2 : ACode := .ops [
 ⟨some 5, none, .q (.fa 0 (.t 1)), []⟩,
 ⟨some 6, none, .q (.fa 0 (.t 5)), []⟩,
 ⟨some 7, none, .q (.ld none (.t 6)), []⟩,
 ⟨some 8, none, .q (.fa 0 (.t 1)), []⟩,
 ⟨some 9, none, .q (.fa 1 (.t 8)), []⟩,
 ⟨some 10, none, .q (.ld none (.t 9)), []⟩,
 ⟨some 11, none, .q (.fa 4 (.t 1)), []⟩,
 ⟨some 12, none, .q (.fa 0 (.t 11)), []⟩,
 ⟨some 13, none, .q (.ld none (.t 12)), []⟩,
 ⟨some 14, none, .q (.fa 0 (.t 1)), []⟩,
 ⟨some 15, none, .q (.fa 0 (.t 14)), []⟩,
 ⟨some 16, none, .q (.ld none (.t 15)), []⟩,
 ⟨some 17, none, .q (.bin .sub (.t 13) (.t 16)), []⟩,
 ⟨some 18, none, .q (.bin .add (.t 17) (.v (.int .i64 1))), []⟩,
 ⟨some 19, none, .q (.fa 4 (.t 1)), []⟩,
 ⟨some 20, none, .q (.fa 1 (.t 19)), []⟩,
 ⟨some 21, none, .q (.ld none (.t 20)), []⟩,
 ⟨some 22, none, .q (.fa 0 (.t 1)), []⟩,
 ⟨some 23, none, .q (.fa 1 (.t 22)), []⟩,
 ⟨some 24, none, .q (.ld none (.t 23)), []⟩,
 ⟨some 25, none, .q (.bin .sub (.t 21) (.t 24)), []⟩,
 ⟨some 26, none, .q (.bin .add (.t 25) (.v (.int .i64 1))), []⟩,
 ⟨some 27, none, .q (.build [(.int .i64 0), (.int .i64 0), (.int .i64 0), (.int .i64 0)] [(0, 1, (.t 7)), (1, 1, (.t 10)), (2, 1, (.t 18)), (3, 1, (.t 26))]), []⟩,
 ⟨none, none, .e (.store 4 (.t 2) (.t 27)), []⟩]
def c58_3 : ACode := .seq c58_2 .ret
def c58_4 : ACode := .seq c58_1 c58_3
def c58_5 : ACode := .seq c58_0 c58_4
@[go_sem] def c58_0_wp := wp_of c58_0.eq_1
@[go_sem] def c58_1_wp := wp_of c58_1.eq_1
@[go_sem] def c58_2_wp := wp_of c58_2.eq_1
@[go_sem] def c58_3_wp := wp_of c58_3.eq_1
@[go_sem] def c58_4_wp := wp_of c58_4.eq_1
@[go_sem] def c58_5_wp := wp_of c58_5.eq_1
def c58 : AFn := ⟨28, [.c 2 (some 4)], c58_5⟩
theorem c58_ok : compF Tryz.prog Tryz.f58 = some c58 := by kernel_rfl
theorem a58 {args : List AV} {σ : ASt} {R : AV → ASt → Prop} (hl : args.length ≤ 28) (h : c58_5.wp Tryz.prog (RetQ [.c 2 (some 4)] R) (init args) σ) : ACalls Tryz.prog 58 args σ R := acalls_of Tryz.func58 c58_ok hl h
/-! 82: (tabular/addr.Area).Norm -/
def c82_0 : ACode := .ops [
 ⟨some 1, none, .e (.box (.t 0)), []⟩,
 ⟨some 2, none, .e (.alloc [(.int .i64 0), (.int .i64 0), (.bool false), (.bool false), (.int .i64 0), (.int .i64 0), (.bool false), (.bool false)]), []⟩]
def c82_1 : ACode := .ops [
 ⟨some 3, none, .q (.fa 0 (.t 1)), []⟩,
 ⟨some 4, none, .q (.fa 0 (.t 3)), []⟩,
 ⟨some 5, none, .q (.ld none (.t 4)), []⟩,
 ⟨some 6, none, .q (.fa 4 (.t 1)), []⟩,
 ⟨some 7, none, .q (.fa 0 (.t 6)), []⟩,
 ⟨some 8, none, .q (.ld none (.t 7)), []⟩,
 ⟨some 9, none, .q (.bin .gtr (.t 5) (.t 8)), []⟩]
def c82_2 : ACode := .ops [
 ⟨some 10, none, .q (.fa 4 (.t 1)), []⟩,
 ⟨some 11, none, .q (.fa 0 (.t 10)), []⟩,
 ⟨some 12, none, .q (.ld none (.t 11)), []⟩,
 ⟨some 13, none, .q (.fa 0 (.t 1)), []⟩,
 ⟨some 14, none, .q (.fa 0 (.t 13)), []⟩,
 ⟨some 15, none, .q (.ld none (.t 14)), []⟩,
 ⟨some 16, none, .q (.fa 0 (.t 1)), []⟩,
 ⟨some 17, none, .q (.fa 0 (.t 16)), []⟩,
 ⟨none, none, .e (.store 1 (.t 17) (.t 12)), []⟩,
 ⟨some 18, none, .q (.fa 4 (.t 1)), []⟩,
 ⟨some 19, none, .q (.fa 0 (.t 18)), []⟩,
 ⟨none, none, .e (.store 1 (.t 19) (.t 15)), []⟩]
def c82_3 : ACode := .ops [
 ⟨some 20, none, .q (.fa 4 (.t 1)), []⟩,
 ⟨some 21, none, .q (.fa 2 (.t 20)), []⟩,
 ⟨some 22, none, .q (.ld none (.t 21)), []⟩,
 ⟨some 23, none, .q (.fa 0 (.t 1)), []⟩,
 ⟨some 24, none, .q (.fa 2 (.t 23)), []⟩,
 ⟨some 25, none, .q (.ld none (.t 24)), []⟩,
 ⟨some 26, none, .q (.fa 0 (.t 1)), []⟩,
 ⟨some 27, none, .q (.fa 2 (.t 26)), []⟩,
 ⟨none, none, .e (.store 1 (.t 27) (.t 22)), []⟩,
 ⟨some 28, none, .q (.fa 4 (.t 1)), []⟩,
 ⟨some 29, none, .q (.fa 2 (.t 28)), []⟩,
 ⟨none, none, .e (.store 1 (.t 29) (.t 25)), []⟩]
def c82_4 : ACode := .seq c82_2 c82_3
def c82_5 : ACode := .cond (.t 9) c82_4 .skip
def c82_6 : ACode := .seq c82_1 c82_5
def c82_7 : ACode := .ops [
 ⟨some 30, none, .q (.fa 0 (.t 1)), []⟩,
 ⟨some 31, none, .q (.fa 1 (.t 30)), []⟩,
 ⟨some 32, none, .q (.ld none (.t 31)), []⟩,
 ⟨some 33, none, .q (.fa 4 (.t 1)), []⟩,
 ⟨some 34, none, .q (.fa 1 (.t 33)), []⟩,
 ⟨some 35, none, .q (.ld none (.t 34)), []⟩,
 ⟨some 36, none, .q (.bin .gtr (.t 32) (.t 35)), []⟩]
def c82_8 : ACode := .ops [
 ⟨some 37, none, .q (.fa 4 (.t 1)), []⟩,
 ⟨some 38, none, .q (.fa 1 (.t 37)), []⟩,
 ⟨some 39, none, .q (.ld none (.t 38)), []⟩,
 ⟨some 40, none, .q (.fa 0 (.t 1)), []⟩,
 ⟨some 41, none, .q (.fa 1 (.t 40)), []⟩,
 ⟨some 42, none, .q (.ld none (.t 41)), []⟩,
 ⟨some 43, none, .q (.fa 0 (.t 1)), []⟩,
 ⟨some 44, none, .q (.fa 1 (.t 43)), []⟩,
 ⟨none, none, .e (.store 1 (.t 44) (.t 39)), []⟩,
 ⟨some 45, none, .q (.fa 4 (.t 1)), []⟩,
 ⟨some 46, none, .q (.fa 1 (.t 45)), []⟩,
 ⟨none, none, .e (.store 1 (.t 46) (.t 42)), []⟩]
def c82_9 : ACode := .ops [
 ⟨some 47, none, .q (.fa 4 (.t 1)), []⟩,
 ⟨some 48, none, .q (.fa 3 (.t 47)), []⟩,
 ⟨some 49, none, .q (.ld none (.t 48)), []⟩,
 ⟨some 50, none, .q (.fa 0 (.t 1)), []⟩,
 ⟨some 51, none, .q (.fa 3 (.t 50)), []⟩,
 ⟨some 52, none, .q (.ld none (.t 51)), []⟩,
 ⟨some 53, none, .q (.fa 0 (.t 1)), []⟩,
 ⟨some 54, none, .q (.fa 3 (.t 53)), []⟩,
 ⟨none, none, .e (.store 1 (.t 54) (.t 49)), []⟩,
 ⟨some 55, none, .q (.fa 4 (.t 1)), []⟩,
 ⟨some 56, none, .q (.fa 3 (.t 55)), []⟩,
 ⟨none, none, .e (.store 1 (.t 56) (.t 52)), []⟩]
def c82_10 : ACode := .seq c82_8 c82_9
def c82_11 : ACode := .cond (.t 36) c82_10 .skip
def c82_12 : ACode := .seq c82_7 c82_11
def c82_13 : ACode := .ops [
 ⟨some 57, none, .q (.ld (some 8) (.t 1)), []⟩,
 ⟨none, none, .e (.store 8 (.t 2) (.t 57)), []⟩]
def c82_14 : ACode := .seq c82_13 .ret
def c82_15 : ACode := .seq c82_12 c82_14
def c82_16 : ACode := .seq c82_6 c82_15
def c82_17 : ACode := .seq c82_0 c82_16
@[go_sem] def c82_0_wp := wp_of c82_0.eq_1
@[go_sem] def c82_1_wp := wp_of c82_1.eq_1
@[go_sem] def c82_2_wp := wp_of c82_2.eq_1
@[go_sem] def c82_3_wp := wp_of c82_3.eq_1
@[go_sem] def c82_4_wp := wp_of c82_4.eq_1
@[go_sem] def c82_5_wp := wp_of c82_5.eq_1
@[go_sem] def c82_6_wp := wp_of c82_6.eq_1
@[go_sem] def c82_7_wp := wp_of c82_7.eq_1
@[go_sem] def c82_8_wp := wp_of c82_8.eq_1
@[go_sem] def c82_9_wp := wp_of c82_9.eq_1
@[go_sem] def c82_10_wp := wp_of c82_10.eq_1
@[go_sem] def c82_11_wp := wp_of c82_11.eq_1
@[go_sem] def c82_12_wp := wp_of c82_12.eq_1
@[go_sem] def c82_13_wp := wp_of c82_13.eq_1
@[go_sem] def c82_14_wp := wp_of c82_14.eq_1
@[go_sem] def c82_15_wp := wp_of c82_15.eq_1
@[go_sem] def c82_16_wp := wp_of c82_16.eq_1
@[go_sem] def c82_17_wp := wp_of c82_17.eq_1
def c82 : AFn := ⟨58, [.c 2 (some 8)], c82_17⟩
theorem c82_ok : compF Tryz.prog Tryz.f82 = some c82 := by kernel_rfl
theorem a82 {args : List AV} {σ : ASt} {R : AV → ASt → Prop} (hl : args.length ≤ 58) (h : c82_17.wp Tryz.prog (RetQ [.c 2 (some 8)] R) (init args) σ) : ACalls Tryz.prog 82 args σ R := acalls_of Tryz.func82 c82_ok hl h
/-! 109: tabular/addr.Parse -/
def c109_0 : ACode := .ops [
 ⟨some 2, none, .e (.alloc [(.int .i64 0), (.int .i64 0), (.bool false), (.bool false)]), []⟩,
 ⟨some 3, none, .q (.mv (.v (.bool false))), []⟩]
def c109_1 : ACode := .ops [
 ⟨some 7, none, .q (.mv (.t 0)), []⟩,
 ⟨some 8, none, .e (.call 126 [(.t 7)]), []⟩,
 ⟨some 6, none, .q (.mv (.t 8)), []⟩,
 ⟨some 9, none, .q (.ext 0 (.t 6)), []⟩,
 ⟨some 10, none, .q (.ext 1 (.t 6)), []⟩,
 ⟨some 4, none, .e (.alloc [(.int .i64 0), (.int .i64 0), (.bool false), (.bool false)]), []⟩,
 ⟨none, none, .e (.store 4 (.t 4) (.t 9)), []⟩,
 ⟨some 5, none, .q (.mv (.t 10)), []⟩]
def c109_2 : ACode := .ops [
 ⟨some 11, none, .q (.mv (.t 5)), []⟩,
 ⟨some 12, none, .q (.bin .eql (.t 11) (.v (.int .i64 0))), []⟩,
 ⟨some 13, none, .q (.mv (.t 12)), []⟩,
 ⟨some 14, some (13, false), .q (.mv (.t 5)), []⟩,
 ⟨some 15, some (13, false), .q (.mv (.t 0)), []⟩,
 ⟨some 16, some (13, false), .q (.lenS (.t 15)), []⟩,
 ⟨some 17, some (13, false), .q (.bin .lss (.t 14) (.t 16)), []⟩,
 ⟨some 18, none, .q (.pick (.t 13) (.v (.bool true)) (.t 17)), []⟩]
def c109_3 : ACode := .ops [
 ⟨some 19, none, .q (.build [(.int .i64 0), (.int .i64 0), (.bool false), (.bool false)] []), []⟩,
 ⟨none, none, .e (.store 4 (.t 2) (.t 19)), []⟩,
 ⟨some 3, none, .q (.mv (.v (.bool false))), []⟩]
def c109_4 : ACode := .seq c109_3 .ret
def c109_5 : ACode := .cond (.t 18) c109_4 .skip
def c109_6 : ACode := .seq c109_2 c109_5
def c109_7 : ACode := .ops [
 ⟨some 20, none, .q (.ld (some 4) (.t 4)), []⟩,
 ⟨none, none, .e (.store 4 (.t 2) (.t 20)), []⟩,
 ⟨some 3, none, .q (.mv (.v (.bool true))), []⟩]
def c109_8 : ACode := .seq c109_7 .ret
def c109_9 : ACode := .seq c109_6 c109_8
def c109_10 : ACode := .seq c109_1 c109_9
def c109_11 : ACode := .seq c109_0 c109_10
@[go_sem] def c109_0_wp := wp_of c109_0.eq_1
@[go_sem] def c109_1_wp := wp_of c109_1.eq_1
@[go_sem] def c109_2_wp := wp_of c109_2.eq_1
@[go_sem] def c109_3_wp := wp_of c109_3.eq_1
@[go_sem] def c109_4_wp := wp_of c109_4.eq_1
@[go_sem] def c109_5_wp := wp_of c109_5.eq_1
@[go_sem] def c109_6_wp := wp_of c109_6.eq_1
@[go_sem] def c109_7_wp := wp_of c109_7.eq_1
@[go_sem] def c109_8_wp := wp_of c109_8.eq_1
@[go_sem] def c109_9_wp := wp_of c109_9.eq_1
@[go_sem] def c109_10_wp := wp_of c109_10.eq_1
@[go_sem] def c109_11_wp := wp_of c109_11.eq_1
def c109 : AFn := ⟨21, [.c 2 (some 4), .t 3], c109_11⟩
theorem c109_ok : compF Tryz.prog Tryz.f109 = some c109 := by kernel_rfl
theorem a109 {args : List AV} {σ : ASt} {R : AV → ASt → Prop} (hl : args.length ≤ 21) (h : c109_11.wp Tryz.prog (RetQ [.c 2 (some 4), .t 3] R) (init args) σ) : ACalls Tryz.prog 109 args σ R := acalls_of Tryz.func109 c109_ok hl h
end Go.A
namespace Go.A
open Go.Proofs
def parseP (l : List UInt8) : Ref × Bool := if (readP l).2 = 0 ∨ (readP l).2 < l.length then (.zero, false) else ((readP l).1, true)
theorem parse_ok (l : List UInt8) (hl : l.length ≤ 9223372036854775000) : Pure Tryz.prog 109 [.str l] (.tuple [refAV (parseP l).1, .bool (parseP l).2]) := by
 intro σ
 obtain ⟨q, hq⟩ : ∃ q, parseP l = q := ⟨_, rfl⟩
 rw [hq]
 unfold parseP at hq
 obtain ⟨R, hR⟩ : ∃ R, readP l = R := ⟨_, rfl⟩
 rw [hR] at hq
 obtain ⟨⟨row, col, ar, ac⟩, n⟩ := R
 dsimp only at hq
 refine a109 (by simp) ?_
 simp (disch := first | assumption | omega) only [go_sem]
 refine allocC_by fun b0 hb0 => ?_
 simp (disch := first | assumption | omega) only [go_sem, reduceCtorEq, ↓reduceIte]
 refine (read_ok l hl).use ?_
 rw [hR]
 simp (disch := first | assumption | omega) only [go_sem, Nat.reduceEqDiff, ↓reduceIte, refAV]
 refine allocC_by fun b1 hb1 => ?_
 obtain ⟨n1, n2, hb3⟩ := set_none hb1
 repeat' (first | (simp (disch := first | assumption | omega) only [go_sem, reduceCtorEq, Nat.reduceEqDiff, Nat.reduceAdd, Nat.reduceLeDiff, ↓reduceIte, Bool.true_and]) | with_reducible refine gC_d (fun h => ?_) (fun h => ?_) | with_reducible refine gC_dn (fun h => ?_) (fun h => ?_) | with_reducible refine condC_d (fun h => ?_) (fun h => ?_) | with_reducible refine condC_n (fun h => ?_) (fun h => ?_) | with_reducible refine condC_b (fun h => ?_) (fun h => ?_) | with_reducible refine boxC_by ?_ fun b hb => ?_)
 all_goals first
  | (rw [if_pos (by omega)] at hq
     subst hq
     exact retC_by (by repeat' (first | exact Drop.refl _ | with_reducible refine Drop.off ?_ (by assumption))) (.refl _) ⟨rfl, rfl⟩)
  | (rw [if_neg (by omega)] at hq
     subst hq
     exact retC_by (by repeat' (first | exact Drop.refl _ | with_reducible refine Drop.off ?_ (by assumption))) (.refl _) ⟨rfl, rfl⟩)
def areaAV (a b : Ref) : AV := .agg [.int .i64 a.row, .int .i64 a.col, .bool a.absRow, .bool a.absCol, .int .i64 b.row, .int .i64 b.col, .bool b.absRow, .bool b.absCol]
def normR (a b : Ref) : Ref × Ref := if b.row < a.row then (⟨b.row, a.col, b.absRow, a.absCol⟩, ⟨a.row, b.col, a.absRow, b.absCol⟩) else (a, b)
def normC (a b : Ref) : Ref × Ref := if b.col < a.col then (⟨a.row, b.col, a.absRow, b.absCol⟩, ⟨b.row, a.col, b.absRow, a.absCol⟩) else (a, b)
def normP (a b : Ref) : Ref × Ref := normC (normR a b).1 (normR a b).2
theorem norm_ok (a b : Ref) : Pure Tryz.prog 82 [areaAV a b] (areaAV (normP a b).1 (normP a b).2) := by
 intro σ
 obtain ⟨q, hq⟩ : ∃ q, normP a b = q := ⟨_, rfl⟩
 rw [hq]
 unfold normP normC normR at hq
 obtain ⟨row, col, ar, ac⟩ := a
 obtain ⟨row2, col2, ar2, ac2⟩ := b
 dsimp only at hq
 refine a82 (by simp) ?_
 simp (disch := first | assumption | omega) only [go_sem, areaAV]
 refine boxC_by rfl fun b0 hb0 => ?_
 simp (disch := first | assumption | omega) only [go_sem]
 refine allocC_by fun b1 hb1 => ?_
 obtain ⟨n1, n2, hb3⟩ := set_none hb1
 by_cases h1 : row2 < row
 ·rw [if_pos h1] at hq
  dsimp only at hq
  by_cases h2 : col2 < col
  ·rw [if_pos h2] at hq
   subst hq
   simp (disch := first | assumption | omega) only [go_sem, Nat.reduceEqDiff, Nat.reduceAdd, Nat.reduceLeDiff, ↓reduceIte, Bool.true_and, h1, h2]
   exact retC_by (by repeat' (first | exact Drop.refl _ | with_reducible refine Drop.off ?_ (by assumption))) (.refl _) ⟨rfl, rfl⟩
  ·rw [if_neg h2] at hq
   subst hq
   simp (disch := first | assumption | omega) only [go_sem, Nat.reduceEqDiff, Nat.reduceAdd, Nat.reduceLeDiff, ↓reduceIte, Bool.true_and, h1, h2]
   exact retC_by (by repeat' (first | exact Drop.refl _ | with_reducible refine Drop.off ?_ (by assumption))) (.refl _) ⟨rfl, rfl⟩
 ·rw [if_neg h1] at hq
  dsimp only at hq
  by_cases h2 : col2 < col
  ·rw [if_pos h2] at hq
   subst hq
   simp (disch := first | assumption | omega) only [go_sem, Nat.reduceEqDiff, Nat.reduceAdd, Nat.reduceLeDiff, ↓reduceIte, Bool.true_and, h1, h2]
   exact retC_by (by repeat' (first | exact Drop.refl _ | with_reducible refine Drop.off ?_ (by assumption))) (.refl _) ⟨rfl, rfl⟩
  ·rw [if_neg h2] at hq
   subst hq
   simp (disch := first | assumption | omega) only [go_sem, Nat.reduceEqDiff, Nat.reduceAdd, Nat.reduceLeDiff, ↓reduceIte, Bool.true_and, h1, h2]
   exact retC_by (by repeat' (first | exact Drop.refl _ | with_reducible refine Drop.off ?_ (by assumption))) (.refl _) ⟨rfl, rfl⟩
def rectAV (row col rows cols : Int) : AV := .agg [.int .i64 row, .int .i64 col, .int .i64 rows, .int .i64 cols]
def Ref.near (r : Ref) : Prop := -4000000 ≤ r.row ∧ r.row ≤ 4000000 ∧ -4000000 ≤ r.col ∧ r.col ≤ 4000000
theorem norm_near {a b : Ref} (ha : a.near) (hb : b.near) : (normP a b).1.near ∧ (normP a b).2.near := by
 unfold normP normC normR Ref.near at *
 split <;> split <;> dsimp only at * <;> omega
theorem rect_ok (a b : Ref) (ha : a.near) (hb : b.near) : Pure Tryz.prog 58 [areaAV a b]
  (rectAV (normP a b).1.row (normP a b).1.col ((normP a b).2.row - (normP a b).1.row + 1) ((normP a b).2.col - (normP a b).1.col + 1)) := by
 intro σ
 obtain ⟨hn1, hn2⟩ := norm_near ha hb
 refine a58 (by simp) ?_
 simp (disch := first | assumption | omega) only [go_sem, areaAV]
 refine boxC_by rfl fun b0 hb0 => ?_
 simp (disch := first | assumption | omega) only [go_sem]
 refine allocC_by fun b1 hb1 => ?_
 obtain ⟨n1, n2, hb3⟩ := set_none hb1
 simp (disch := first | assumption | omega) only [go_sem, Nat.reduceEqDiff, Nat.reduceAdd, Nat.reduceLeDiff, ↓reduceIte]
 refine (norm_ok a b).use ?_
 obtain ⟨q, hq⟩ : ∃ q, normP a b = q := ⟨_, rfl⟩
 rw [hq] at hn1 hn2 ⊢
 obtain ⟨⟨row, col, ar, ac⟩, ⟨row2, col2, ar2, ac2⟩⟩ := q
 simp only [Ref.near] at hn1 hn2
 obtain ⟨m1, m2, m3, m4⟩ := hn1
 obtain ⟨m5, m6, m7, m8⟩ := hn2
 simp (disch := first | assumption | omega) only [go_sem, Nat.reduceEqDiff, Nat.reduceAdd, Nat.reduceLeDiff, ↓reduceIte, Bool.true_and, areaAV]
 exact retC_by (by repeat' (first | exact Drop.refl _ | with_reducible refine Drop.off ?_ (by assumption))) (.refl _) ⟨rfl, rfl⟩
end Go.A
namespace Go.A
open Go.Proofs
/-! 9: tabular/tabularlaw01.Cut -/
def c9_0 : ACode := .ops [
 ⟨some 4, none, .q (.mv (.v (.str []))), []⟩]
def c9_1 : ACode := .ops [
 ⟨some 5, none, .q (.mv (.t 0)), []⟩,
 ⟨some 6, none, .q (.lenS (.t 5)), []⟩,
 ⟨some 7, none, .q (.mv (.t 1)), []⟩,
 ⟨some 8, none, .q (.bin .gtr (.t 6) (.t 7)), []⟩]
def c9_2 : ACode := .ops [
 ⟨some 9, none, .q (.mv (.t 0)), []⟩,
 ⟨some 10, none, .q (.mv (.t 1)), []⟩,
 ⟨some 11, none, .q (.slto (true, 0) (.t 9) (.t 10)), []⟩,
 ⟨some 4, none, .q (.mv (.t 11)), []⟩]
def c9_3 : ACode := .seq c9_2 .ret
def c9_4 : ACode := .cond (.t 8) c9_3 .skip
def c9_5 : ACode := .seq c9_1 c9_4
def c9_6 : ACode := .ops [
 ⟨some 12, none, .q (.mv (.t 0)), []⟩,
 ⟨some 4, none, .q (.mv (.t 12)), []⟩]
def c9_7 : ACode := .seq c9_6 .ret
def c9_8 : ACode := .seq c9_5 c9_7
def c9_9 : ACode := .seq c9_0 c9_8
@[go_sem] def c9_0_wp := wp_of c9_0.eq_1
@[go_sem] def c9_1_wp := wp_of c9_1.eq_1
@[go_sem] def c9_2_wp := wp_of c9_2.eq_1
@[go_sem] def c9_3_wp := wp_of c9_3.eq_1
@[go_sem] def c9_4_wp := wp_of c9_4.eq_1
@[go_sem] def c9_5_wp := wp_of c9_5.eq_1
@[go_sem] def c9_6_wp := wp_of c9_6.eq_1
@[go_sem] def c9_7_wp := wp_of c9_7.eq_1
@[go_sem] def c9_8_wp := wp_of c9_8.eq_1
@[go_sem] def c9_9_wp := wp_of c9_9.eq_1
def c9 : AFn := ⟨13, [.t 4], c9_9⟩
theorem c9_ok : compF Tryz.prog Tryz.f9 = some c9 := by kernel_rfl
theorem a9 {args : List AV} {σ : ASt} {R : AV → ASt → Prop} (hl : args.length ≤ 13) (h : c9_9.wp Tryz.prog (RetQ [.t 4] R) (init args) σ) : ACalls Tryz.prog 9 args σ R := acalls_of Tryz.func9 c9_ok hl h
/-! 73: (tabular/deci.Dec).Text -/
def c73_0 : ACode := .ops [
 ⟨some 2, none, .q (.mv (.v (.str []))), []⟩]
def c73_1 : ACode := .ops [
 ⟨some 6, none, .q (.mv (.t 0)), []⟩,
 ⟨some 7, none, .e (.call 98 [(.t 6)]), []⟩,
 ⟨some 3, none, .q (.mv (.t 7)), []⟩]
def c73_2 : ACode := .ops [
 ⟨some 8, none, .q (.mv (.t 3)), []⟩,
 ⟨some 9, none, .q (.bin .quo (.t 8) (.v (.int .u64 10000))), []⟩,
 ⟨some 10, none, .e (.call 99 [(.t 9), (.v (.int .i64 10))]), []⟩,
 ⟨some 4, none, .q (.mv (.t 10)), []⟩]
def c73_3 : ACode := .ops [
 ⟨some 11, none, .q (.mv (.t 3)), []⟩,
 ⟨some 12, none, .q (.bin .rem (.t 11) (.v (.int .u64 10000))), []⟩,
 ⟨some 5, none, .q (.mv (.t 12)), []⟩]
def c73_4 : ACode := .ops [
 ⟨some 13, none, .q (.mv (.t 5)), []⟩,
 ⟨some 14, none, .q (.bin .gtr (.t 13) (.v (.int .u64 0))), []⟩]
def c73_5 : ACode := .ops [
 ⟨some 15, none, .q (.mv (.t 4)), []⟩,
 ⟨some 16, none, .q (.mv (.t 5)), []⟩,
 ⟨some 17, none, .q (.bin .add (.v (.int .u64 10000)) (.t 16)), []⟩,
 ⟨some 18, none, .e (.call 99 [(.t 17), (.v (.int .i64 10))]), []⟩,
 ⟨some 19, none, .q (.slfrom (true, 0) (.t 18) (.v (.int .i64 1))), []⟩,
 ⟨some 20, none, .e (.call 100 [(.t 19), (.v (.str [48]))]), []⟩,
 ⟨some 21, none, .q (.bin .add (.v (.str [46])) (.t 20)), []⟩,
 ⟨some 22, none, .q (.bin .add (.t 15) (.t 21)), []⟩,
 ⟨some 4, none, .q (.mv (.t 22)), []⟩]
def c73_6 : ACode := .cond (.t 14) c73_5 .skip
def c73_7 : ACode := .seq c73_4 c73_6
def c73_8 : ACode := .seq c73_3 c73_7
def c73_9 : ACode := .ops [
 ⟨some 23, none, .q (.mv (.t 0)), []⟩,
 ⟨some 24, none, .q (.bin .lss (.t 23) (.v (.int .i64 0))), []⟩]
def c73_10 : ACode := .ops [
 ⟨some 25, none, .q (.mv (.t 4)), []⟩,
 ⟨some 26, none, .q (.bin .add (.v (.str [45])) (.t 25)), []⟩,
 ⟨some 2, none, .q (.mv (.t 26)), []⟩]
def c73_11 : ACode := .seq c73_10 .ret
def c73_12 : ACode := .cond (.t 24) c73_11 .skip
def c73_13 : ACode := .seq c73_9 c73_12
def c73_14 : ACode := .ops [
 ⟨some 27, none, .q (.mv (.t 4)), []⟩,
 ⟨some 2, none, .q (.mv (.t 27)), []⟩]
def c73_15 : ACode := .seq c73_14 .ret
def c73_16 : ACode := .seq c73_13 c73_15
def c73_17 : ACode := .seq c73_8 c73_16
def c73_18 : ACode := .seq c73_2 c73_17
def c73_19 : ACode := .seq c73_1 c73_18
def c73_20 : ACode := .seq c73_0 c73_19
@[go_sem] def c73_0_wp := wp_of c73_0.eq_1
@[go_sem] def c73_1_wp := wp_of c73_1.eq_1
@[go_sem] def c73_2_wp := wp_of c73_2.eq_1
@[go_sem] def c73_3_wp := wp_of c73_3.eq_1
@[go_sem] def c73_4_wp := wp_of c73_4.eq_1
@[go_sem] def c73_5_wp := wp_of c73_5.eq_1
@[go_sem] def c73_6_wp := wp_of c73_6.eq_1
@[go_sem] def c73_7_wp := wp_of c73_7.eq_1
@[go_sem] def c73_8_wp := wp_of c73_8.eq_1
@[go_sem] def c73_9_wp := wp_of c73_9.eq_1
@[go_sem] def c73_10_wp := wp_of c73_10.eq_1
@[go_sem] def c73_11_wp := wp_of c73_11.eq_1
@[go_sem] def c73_12_wp := wp_of c73_12.eq_1
@[go_sem] def c73_13_wp := wp_of c73_13.eq_1
@[go_sem] def c73_14_wp := wp_of c73_14.eq_1
@[go_sem] def c73_15_wp := wp_of c73_15.eq_1
@[go_sem] def c73_16_wp := wp_of c73_16.eq_1
@[go_sem] def c73_17_wp := wp_of c73_17.eq_1
@[go_sem] def c73_18_wp := wp_of c73_18.eq_1
@[go_sem] def c73_19_wp := wp_of c73_19.eq_1
@[go_sem] def c73_20_wp := wp_of c73_20.eq_1
def c73 : AFn := ⟨28, [.t 2], c73_20⟩
theorem c73_ok : compF Tryz.prog Tryz.f73 = some c73 := by kernel_rfl
theorem a73 {args : List AV} {σ : ASt} {R : AV → ASt → Prop} (hl : args.length ≤ 28) (h : c73_20.wp Tryz.prog (RetQ [.t 2] R) (init args) σ) : ACalls Tryz.prog 73 args σ R := acalls_of Tryz.func73 c73_ok hl h
/-! 98: tabular/deci.size -/
def c98_0 : ACode := .ops [
 ⟨some 2, none, .q (.mv (.v (.int .u64 0))), []⟩]
def c98_1 : ACode := .ops [
 ⟨some 3, none, .q (.mv (.t 0)), []⟩,
 ⟨some 4, none, .q (.bin .lss (.t 3) (.v (.int .i64 0))), []⟩]
def c98_2 : ACode := .ops [
 ⟨some 5, none, .q (.mv (.t 0)), []⟩,
 ⟨some 6, none, .q (.un .neg (.t 5)), []⟩,
 ⟨some 7, none, .q (.conv .u64 (.t 6)), []⟩,
 ⟨some 2, none, .q (.mv (.t 7)), []⟩]
def c98_3 : ACode := .seq c98_2 .ret
def c98_4 : ACode := .cond (.t 4) c98_3 .skip
def c98_5 : ACode := .seq c98_1 c98_4
def c98_6 : ACode := .ops [
 ⟨some 8, none, .q (.mv (.t 0)), []⟩,
 ⟨some 9, none, .q (.conv .u64 (.t 8)), []⟩,
 ⟨some 2, none, .q (.mv (.t 9)), []⟩]
def c98_7 : ACode := .seq c98_6 .ret
def c98_8 : ACode := .seq c98_5 c98_7
def c98_9 : ACode := .seq c98_0 c98_8
@[go_sem] def c98_0_wp := wp_of c98_0.eq_1
@[go_sem] def c98_1_wp := wp_of c98_1.eq_1
@[go_sem] def c98_2_wp := wp_of c98_2.eq_1
@[go_sem] def c98_3_wp := wp_of c98_3.eq_1
@[go_sem] def c98_4_wp := wp_of c98_4.eq_1
@[go_sem] def c98_5_wp := wp_of c98_5.eq_1
@[go_sem] def c98_6_wp := wp_of c98_6.eq_1
@[go_sem] def c98_7_wp := wp_of c98_7.eq_1
@[go_sem] def c98_8_wp := wp_of c98_8.eq_1
@[go_sem] def c98_9_wp := wp_of c98_9.eq_1
def c98 : AFn := ⟨10, [.t 2], c98_9⟩
theorem c98_ok : compF Tryz.prog Tryz.f98 = some c98 := by kernel_rfl
theorem a98 {args : List AV} {σ : ASt} {R : AV → ASt → Prop} (hl : args.length ≤ 10) (h : c98_9.wp Tryz.prog (RetQ [.t 2] R) (init args) σ) : ACalls Tryz.prog 98 args σ R := acalls_of Tryz.func98 c98_ok hl h
/-! 99: strconv.FormatUint -/
def c99_0 : ACode := .ops [
 ⟨some 4, none, .q (.mv (.v (.str []))), []⟩]
def c99_1 : ACode := .ops [
 ⟨some 5, none, .q (.mv (.t 0)), []⟩,
 ⟨some 6, none, .q (.mv (.t 1)), []⟩,
 ⟨some 7, none, .e (.call 118 [(.t 5), (.t 6)]), []⟩,
 ⟨some 4, none, .q (.mv (.t 7)), []⟩]
def c99_2 : ACode := .seq c99_1 .ret
def c99_3 : ACode := .seq c99_0 c99_2
@[go_sem] def c99_0_wp := wp_of c99_0.eq_1
@[go_sem] def c99_1_wp := wp_of c99_1.eq_1
@[go_sem] def c99_2_wp := wp_of c99_2.eq_1
@[go_sem] def c99_3_wp := wp_of c99_3.eq_1
def c99 : AFn := ⟨8, [.t 4], c99_3⟩
theorem c99_ok : compF Tryz.prog Tryz.f99 = some c99 := by kernel_rfl
theorem a99 {args : List AV} {σ : ASt} {R : AV → ASt → Prop} (hl : args.length ≤ 8) (h : c99_3.wp Tryz.prog (RetQ [.t 4] R) (init args) σ) : ACalls Tryz.prog 99 args σ R := acalls_of Tryz.func99 c99_ok hl h
/-! 102: (tabular/deci.Dec).Whole -/
def c102_0 : ACode := .ops [
 ⟨some 2, none, .q (.mv (.v (.int .i64 0))), []⟩]
def c102_1 : ACode := .ops [
 ⟨some 3, none, .q (.mv (.t 0)), []⟩,
 ⟨some 4, none, .q (.bin .quo (.t 3) (.v (.int .i64 10000))), []⟩,
 ⟨some 2, none, .q (.mv (.t 4)), []⟩]
def c102_2 : ACode := .seq c102_1 .ret
def c102_3 : ACode := .seq c102_0 c102_2
@[go_sem] def c102_0_wp := wp_of c102_0.eq_1
@[go_sem] def c102_1_wp := wp_of c102_1.eq_1
@[go_sem] def c102_2_wp := wp_of c102_2.eq_1
@[go_sem] def c102_3_wp := wp_of c102_3.eq_1
def c102 : AFn := ⟨5, [.t 2], c102_3⟩
theorem c102_ok : compF Tryz.prog Tryz.f102 = some c102 := by kernel_rfl
theorem a102 {args : List AV} {σ : ASt} {R : AV → ASt → Prop} (hl : args.length ≤ 5) (h : c102_3.wp Tryz.prog (RetQ [.t 2] R) (init args) σ) : ACalls Tryz.prog 102 args σ R := acalls_of Tryz.func102 c102_ok hl h
/-! 107: strings.Cut -/
def c107_0 : ACode := .ops [
 ⟨some 4, none, .q (.mv (.v (.str []))), []⟩,
 ⟨some 5, none, .q (.mv (.v (.str []))), []⟩,
 ⟨some 6, none, .q (.mv (.v (.bool false))), []⟩]
def c107_1 : ACode := .ops [
 ⟨some 7, none, .q (.mv (.t 0)), []⟩,
 ⟨some 8, none, .q (.mv (.t 1)), []⟩,
 ⟨some 9, none, .e (.call 125 [(.t 7), (.t 8)]), []⟩,
 ⟨some 10, none, .q (.ext 0 (.t 9)), []⟩,
 ⟨some 11, none, .q (.ext 1 (.t 9)), []⟩,
 ⟨some 12, none, .q (.ext 2 (.t 9)), []⟩,
 ⟨some 4, none, .q (.mv (.t 10)), []⟩,
 ⟨some 5, none, .q (.mv (.t 11)), []⟩,
 ⟨some 6, none, .q (.mv (.t 12)), []⟩]
def c107_2 : ACode := .seq c107_1 .ret
def c107_3 : ACode := .seq c107_0 c107_2
@[go_sem] def c107_0_wp := wp_of c107_0.eq_1
@[go_sem] def c107_1_wp := wp_of c107_1.eq_1
@[go_sem] def c107_2_wp := wp_of c107_2.eq_1
@[go_sem] def c107_3_wp := wp_of c107_3.eq_1
def c107 : AFn := ⟨13, [.t 4, .t 5, .t 6], c107_3⟩
theorem c107_ok : compF Tryz.prog Tryz.f107 = some c107 := by kernel_rfl
theorem a107 {args : List AV} {σ : ASt} {R : AV → ASt → Prop} (hl : args.length ≤ 13) (h : c107_3.wp Tryz.prog (RetQ [.t 4, .t 5, .t 6] R) (init args) σ) : ACalls Tryz.prog 107 args σ R := acalls_of Tryz.func107 c107_ok hl h
/-! 113: tabular/deci.Parse -/
def c113_0 : ACode := .ops [
 ⟨some 2, none, .q (.mv (.v (.int .i64 0))), []⟩,
 ⟨some 3, none, .q (.mv (.v (.bool false))), []⟩]
def c113_1 : ACode := .ops [
 ⟨some 13, none, .q (.mv (.t 0)), []⟩,
 ⟨some 14, none, .e (.call 129 [(.t 13), (.v (.str [45]))]), []⟩,
 ⟨some 12, none, .q (.mv (.t 14)), []⟩,
 ⟨some 15, none, .q (.ext 0 (.t 12)), []⟩,
 ⟨some 16, none, .q (.ext 1 (.t 12)), []⟩,
 ⟨some 4, none, .q (.mv (.t 15)), []⟩,
 ⟨some 5, none, .q (.mv (.t 16)), []⟩]
def c113_2 : ACode := .ops [
 ⟨some 18, none, .q (.mv (.t 4)), []⟩,
 ⟨some 19, none, .e (.call 107 [(.t 18), (.v (.str [46]))]), []⟩,
 ⟨some 17, none, .q (.mv (.t 19)), []⟩,
 ⟨some 20, none, .q (.ext 0 (.t 17)), []⟩,
 ⟨some 21, none, .q (.ext 1 (.t 17)), []⟩,
 ⟨some 22, none, .q (.ext 2 (.t 17)), []⟩,
 ⟨some 6, none, .q (.mv (.t 20)), []⟩,
 ⟨some 7, none, .q (.mv (.t 21)), []⟩,
 ⟨some 8, none, .q (.mv (.t 22)), []⟩]
def c113_3 : ACode := .ops [
 ⟨some 23, none, .q (.mv (.t 6)), []⟩,
 ⟨some 24, none, .q (.bin .eql (.t 23) (.v (.str []))), []⟩,
 ⟨some 25, none, .q (.mv (.t 24)), []⟩,
 ⟨some 26, some (25, false), .q (.mv (.t 8)), []⟩,
 ⟨some 27, some (25, false), .q (.mv (.t 26)), []⟩,
 ⟨some 28, some (27, true), .q (.mv (.t 7)), []⟩,
 ⟨some 29, some (27, true), .q (.bin .eql (.t 28) (.v (.str []))), []⟩,
 ⟨some 30, some (27, true), .q (.mv (.t 29)), []⟩,
 ⟨some 31, some (30, false), .q (.mv (.t 7)), []⟩,
 ⟨some 32, some (30, false), .q (.lenS (.t 31)), []⟩,
 ⟨some 33, some (30, false), .q (.bin .gtr (.t 32) (.v (.int .i64 4))), []⟩,
 ⟨some 34, some (27, true), .q (.pick (.t 30) (.v (.bool true)) (.t 33)), []⟩,
 ⟨some 35, some (25, false), .q (.pick (.t 27) (.t 34) (.v (.bool false))), []⟩,
 ⟨some 36, none, .q (.pick (.t 25) (.v (.bool true)) (.t 35)), []⟩]
def c113_4 : ACode := .ops [
 ⟨some 2, none, .q (.mv (.v (.int .i64 0))), []⟩,
 ⟨some 3, none, .q (.mv (.v (.bool false))), []⟩]
def c113_5 : ACode := .seq c113_4 .ret
def c113_6 : ACode := .cond (.t 36) c113_5 .skip
def c113_7 : ACode := .seq c113_3 c113_6
def c113_8 : ACode := .ops [
 ⟨some 9, none, .q (.mv (.v (.int .u64 0))), []⟩]
def c113_9 : ACode := .ops [
 ⟨some 37, none, .q (.mv (.t 6)), []⟩,
 ⟨some 38, none, .q (.mv (.t 7)), []⟩,
 ⟨some 39, none, .q (.bin .add (.t 37) (.t 38)), []⟩,
 ⟨some 40, none, .q (.mv (.t 7)), []⟩,
 ⟨some 41, none, .q (.lenS (.t 40)), []⟩,
 ⟨some 42, none, .q (.slfrom (true, 0) (.v (.str [48, 48, 48, 48])) (.t 41)), []⟩,
 ⟨some 43, none, .q (.bin .add (.t 39) (.t 42)), []⟩,
 ⟨some 44, none, .e (.s2b (.t 43)), []⟩,
 ⟨some 45, none, .q (.len (.t 44)), []⟩,
 ⟨some 46, none, .q (.mv (.v (.int .i64 0))), []⟩]
def c113_10 : ACode := .ops [
 ⟨some 47, none, .q (.bin .lss (.t 46) (.t 45)), []⟩]
def c113_11 : ACode := .cond (.t 47) .skip (.exit 0)
def c113_12 : ACode := .ops [
 ⟨some 48, none, .q (.ia 1 (.t 44) (.t 46)), []⟩,
 ⟨some 49, none, .q (.ld none (.t 48)), []⟩,
 ⟨some 11, none, .q (.mv (.t 49)), []⟩]
def c113_13 : ACode := .ops [
 ⟨some 50, none, .q (.mv (.t 11)), []⟩,
 ⟨some 51, none, .q (.bin .lss (.t 50) (.v (.int .u8 48))), []⟩,
 ⟨some 52, none, .q (.mv (.t 51)), []⟩,
 ⟨some 53, some (52, false), .q (.mv (.t 11)), []⟩,
 ⟨some 54, some (52, false), .q (.bin .gtr (.t 53) (.v (.int .u8 57))), []⟩,
 ⟨some 55, none, .q (.pick (.t 52) (.v (.bool true)) (.t 54)), []⟩,
 ⟨some 56, none, .q (.mv (.t 55)), []⟩,
 ⟨some 57, some (56, false), .q (.mv (.t 9)), []⟩,
 ⟨some 58, some (56, false), .q (.bin .gtr (.t 57) (.v (.int .u64 99999999999999999))), []⟩,
 ⟨some 59, none, .q (.pick (.t 56) (.v (.bool true)) (.t 58)), []⟩]
def c113_14 : ACode := .ops [
 ⟨some 2, none, .q (.mv (.v (.int .i64 0))), []⟩,
 ⟨some 3, none, .q (.mv (.v (.bool false))), []⟩]
def c113_15 : ACode := .seq c113_14 .ret
def c113_16 : ACode := .cond (.t 59) c113_15 .skip
def c113_17 : ACode := .seq c113_13 c113_16
def c113_18 : ACode := .ops [
 ⟨some 60, none, .q (.mv (.t 9)), []⟩,
 ⟨some 61, none, .q (.bin .mul (.v (.int .u64 10)) (.t 60)), []⟩,
 ⟨some 62, none, .q (.mv (.t 11)), []⟩,
 ⟨some 63, none, .q (.bin .sub (.t 62) (.v (.int .u8 48))), []⟩,
 ⟨some 64, none, .q (.conv .u64 (.t 63)), []⟩,
 ⟨some 65, none, .q (.bin .add (.t 61) (.t 64)), []⟩,
 ⟨some 9, none, .q (.mv (.t 65)), []⟩]
def c113_19 : ACode := .seq c113_17 c113_18
def c113_20 : ACode := .seq c113_12 c113_19
def c113_21 : ACode := .block 1 c113_20
def c113_22 : ACode := .ops [
 ⟨some 66, none, .q (.bin .add (.t 46) (.v (.int .i64 1))), []⟩,
 ⟨some 46, none, .q (.mv (.t 66)), []⟩]
def c113_23 : ACode := .seq c113_21 c113_22
def c113_24 : ACode := .seq c113_11 c113_23
def c113_25 : ACode := .seq c113_10 c113_24
def c113_26 : ACode := .loop c113_25
def c113_27 : ACode := .block 0 c113_26
def c113_28 : ACode := .seq c113_9 c113_27
def c113_29 : ACode := .ops [
 ⟨some 67, none, .q (.mv (.t 5)), []⟩,
 ⟨some 68, none, .q (.mv (.t 9)), []⟩,
 ⟨some 69, none, .e (.call 130 [(.t 67), (.v (.int .u64 0)), (.t 68)]), []⟩,
 ⟨some 70, none, .q (.ext 0 (.t 69)), []⟩,
 ⟨some 71, none, .q (.ext 1 (.t 69)), []⟩,
 ⟨some 2, none, .q (.mv (.t 70)), []⟩,
 ⟨some 3, none, .q (.mv (.t 71)), []⟩]
def c113_30 : ACode := .seq c113_29 .ret
def c113_31 : ACode := .seq c113_28 c113_30
def c113_32 : ACode := .seq c113_8 c113_31
def c113_33 : ACode := .seq c113_7 c113_32
def c113_34 : ACode := .seq c113_2 c113_33
def c113_35 : ACode := .seq c113_1 c113_34
def c113_36 : ACode := .seq c113_0 c113_35
@[go_sem] def c113_0_wp := wp_of c113_0.eq_1
@[go_sem] def c113_1_wp := wp_of c113_1.eq_1
@[go_sem] def c113_2_wp := wp_of c113_2.eq_1
@[go_sem] def c113_3_wp := wp_of c113_3.eq_1
@[go_sem] def c113_4_wp := wp_of c113_4.eq_1
@[go_sem] def c113_5_wp := wp_of c113_5.eq_1
@[go_sem] def c113_6_wp := wp_of c113_6.eq_1
@[go_sem] def c113_7_wp := wp_of c113_7.eq_1
@[go_sem] def c113_8_wp := wp_of c113_8.eq_1
@[go_sem] def c113_9_wp := wp_of c113_9.eq_1
@[go_sem] def c113_10_wp := wp_of c113_10.eq_1
@[go_sem] def c113_11_wp := wp_of c113_11.eq_1
@[go_sem] def c113_12_wp := wp_of c113_12.eq_1
@[go_sem] def c113_13_wp := wp_of c113_13.eq_1
@[go_sem] def c113_14_wp := wp_of c113_14.eq_1
@[go_sem] def c113_15_wp := wp_of c113_15.eq_1
@[go_sem] def c113_16_wp := wp_of c113_16.eq_1
@[go_sem] def c113_17_wp := wp_of c113_17.eq_1
@[go_sem] def c113_18_wp := wp_of c113_18.eq_1
@[go_sem] def c113_19_wp := wp_of c113_19.eq_1
@[go_sem] def c113_20_wp := wp_of c113_20.eq_1
@[go_sem] def c113_21_wp := wp_of c113_21.eq_1
@[go_sem] def c113_22_wp := wp_of c113_22.eq_1
@[go_sem] def c113_23_wp := wp_of c113_23.eq_1
@[go_sem] def c113_24_wp := wp_of c113_24.eq_1
@[go_sem] def c113_25_wp := wp_of c113_25.eq_1
@[go_sem] def c113_26_wp := wp_of c113_26.eq_1
@[go_sem] def c113_27_wp := wp_of c113_27.eq_1
@[go_sem] def c113_28_wp := wp_of c113_28.eq_1
@[go_sem] def c113_29_wp := wp_of c113_29.eq_1
@[go_sem] def c113_30_wp := wp_of c113_30.eq_1
@[go_sem] def c113_31_wp := wp_of c113_31.eq_1
@[go_sem] def c113_32_wp := wp_of c113_32.eq_1
@[go_sem] def c113_33_wp := wp_of c113_33.eq_1
@[go_sem] def c113_34_wp := wp_of c113_34.eq_1
@[go_sem] def c113_35_wp := wp_of c113_35.eq_1
@[go_sem] def c113_36_wp := wp_of c113_36.eq_1
def c113 : AFn := ⟨72, [.t 2, .t 3], c113_36⟩
theorem c113_ok : compF Tryz.prog Tryz.f113 = some c113 := by kernel_rfl
theorem a113 {args : List AV} {σ : ASt} {R : AV → ASt → Prop} (hl : args.length ≤ 72) (h : c113_36.wp Tryz.prog (RetQ [.t 2, .t 3] R) (init args) σ) : ACalls Tryz.prog 113 args σ R := acalls_of Tryz.func113 c113_ok hl h
/-! 125: internal/stringslite.Cut -/
def c125_0 : ACode := .ops [
 ⟨some 4, none, .q (.mv (.v (.str []))), []⟩,
 ⟨some 5, none, .q (.mv (.v (.str []))), []⟩,
 ⟨some 6, none, .q (.mv (.v (.bool false))), []⟩]
def c125_1 : ACode := .ops [
 ⟨some 8, none, .q (.mv (.t 0)), []⟩,
 ⟨some 9, none, .q (.mv (.t 1)), []⟩,
 ⟨some 10, none, .e (.call 128 [(.t 8), (.t 9)]), []⟩,
 ⟨some 7, none, .q (.mv (.t 10)), []⟩]
def c125_2 : ACode := .ops [
 ⟨some 11, none, .q (.mv (.t 7)), []⟩,
 ⟨some 12, none, .q (.bin .geq (.t 11) (.v (.int .i64 0))), []⟩]
def c125_3 : ACode := .ops [
 ⟨some 13, none, .q (.mv (.t 0)), []⟩,
 ⟨some 14, none, .q (.mv (.t 7)), []⟩,
 ⟨some 15, none, .q (.slto (true, 0) (.t 13) (.t 14)), []⟩,
 ⟨some 16, none, .q (.mv (.t 0)), []⟩,
 ⟨some 17, none, .q (.mv (.t 7)), []⟩,
 ⟨some 18, none, .q (.mv (.t 1)), []⟩,
 ⟨some 19, none, .q (.lenS (.t 18)), []⟩,
 ⟨some 20, none, .q (.bin .add (.t 17) (.t 19)), []⟩,
 ⟨some 21, none, .q (.slfrom (true, 0) (.t 16) (.t 20)), []⟩,
 ⟨some 4, none, .q (.mv (.t 15)), []⟩,
 ⟨some 5, none, .q (.mv (.t 21)), []⟩,
 ⟨some 6, none, .q (.mv (.v (.bool true))), []⟩]
def c125_4 : ACode := .seq c125_3 .ret
def c125_5 : ACode := .cond (.t 12) c125_4 .skip
def c125_6 : ACode := .seq c125_2 c125_5
def c125_7 : ACode := .seq c125_1 c125_6
def c125_8 : ACode := .ops [
 ⟨some 22, none, .q (.mv (.t 0)), []⟩,
 ⟨some 4, none, .q (.mv (.t 22)), []⟩,
 ⟨some 5, none, .q (.mv (.v (.str []))), []⟩,
 ⟨some 6, none, .q (.mv (.v (.bool false))), []⟩]
def c125_9 : ACode := .seq c125_8 .ret
def c125_10 : ACode := .seq c125_7 c125_9
def c125_11 : ACode := .seq c125_0 c125_10
@[go_sem] def c125_0_wp := wp_of c125_0.eq_1
@[go_sem] def c125_1_wp := wp_of c125_1.eq_1
@[go_sem] def c125_2_wp := wp_of c125_2.eq_1
@[go_sem] def c125_3_wp := wp_of c125_3.eq_1
@[go_sem] def c125_4_wp := wp_of c125_4.eq_1
@[go_sem] def c125_5_wp := wp_of c125_5.eq_1
@[go_sem] def c125_6_wp := wp_of c125_6.eq_1
@[go_sem] def c125_7_wp := wp_of c125_7.eq_1
@[go_sem] def c125_8_wp := wp_of c125_8.eq_1
@[go_sem] def c125_9_wp := wp_of c125_9.eq_1
@[go_sem] def c125_10_wp := wp_of c125_10.eq_1
@[go_sem] def c125_11_wp := wp_of c125_11.eq_1
def c125 : AFn := ⟨23, [.t 4, .t 5, .t 6], c125_11⟩
theorem c125_ok : compF Tryz.prog Tryz.f125 = some c125 := by kernel_rfl
theorem a125 {args : List AV} {σ : ASt} {R : AV → ASt → Prop} (hl : args.length ≤ 23) (h : c125_11.wp Tryz.prog (RetQ [.t 4, .t 5, .t 6] R) (init args) σ) : ACalls Tryz.prog 125 args σ R := acalls_of Tryz.func125 c125_ok hl h
/-! 130: tabular/deci.made -/
def c130_0 : ACode := .ops [
 ⟨some 6, none, .q (.mv (.v (.int .i64 0))), []⟩,
 ⟨some 7, none, .q (.mv (.v (.bool false))), []⟩]
def c130_1 : ACode := .ops [
 ⟨some 8, none, .q (.mv (.t 1)), []⟩,
 ⟨some 9, none, .q (.bin .gtr (.t 8) (.v (.int .u64 0))), []⟩,
 ⟨some 10, none, .q (.mv (.t 9)), []⟩,
 ⟨some 11, some (10, false), .q (.mv (.t 2)), []⟩,
 ⟨some 12, some (10, false), .q (.bin .gtr (.t 11) (.v (.int .u64 999999999999999999))), []⟩,
 ⟨some 13, none, .q (.pick (.t 10) (.v (.bool true)) (.t 12)), []⟩]
def c130_2 : ACode := .ops [
 ⟨some 6, none, .q (.mv (.v (.int .i64 0))), []⟩,
 ⟨some 7, none, .q (.mv (.v (.bool false))), []⟩]
def c130_3 : ACode := .seq c130_2 .ret
def c130_4 : ACode := .cond (.t 13) c130_3 .skip
def c130_5 : ACode := .seq c130_1 c130_4
def c130_6 : ACode := .ops [
 ⟨some 14, none, .q (.mv (.t 0)), []⟩]
def c130_7 : ACode := .ops [
 ⟨some 15, none, .q (.mv (.t 2)), []⟩,
 ⟨some 16, none, .q (.conv .i64 (.t 15)), []⟩,
 ⟨some 17, none, .q (.un .neg (.t 16)), []⟩,
 ⟨some 6, none, .q (.mv (.t 17)), []⟩,
 ⟨some 7, none, .q (.mv (.v (.bool true))), []⟩]
def c130_8 : ACode := .seq c130_7 .ret
def c130_9 : ACode := .cond (.t 14) c130_8 .skip
def c130_10 : ACode := .seq c130_6 c130_9
def c130_11 : ACode := .ops [
 ⟨some 18, none, .q (.mv (.t 2)), []⟩,
 ⟨some 19, none, .q (.conv .i64 (.t 18)), []⟩,
 ⟨some 6, none, .q (.mv (.t 19)), []⟩,
 ⟨some 7, none, .q (.mv (.v (.bool true))), []⟩]
def c130_12 : ACode := .seq c130_11 .ret
def c130_13 : ACode := .seq c130_10 c130_12
def c130_14 : ACode := .seq c130_5 c130_13
def c130_15 : ACode := .seq c130_0 c130_14
@[go_sem] def c130_0_wp := wp_of c130_0.eq_1
@[go_sem] def c130_1_wp := wp_of c130_1.eq_1
@[go_sem] def c130_2_wp := wp_of c130_2.eq_1
@[go_sem] def c130_3_wp := wp_of c130_3.eq_1
@[go_sem] def c130_4_wp := wp_of c130_4.eq_1
@[go_sem] def c130_5_wp := wp_of c130_5.eq_1
@[go_sem] def c130_6_wp := wp_of c130_6.eq_1
@[go_sem] def c130_7_wp := wp_of c130_7.eq_1
@[go_sem] def c130_8_wp := wp_of c130_8.eq_1
@[go_sem] def c130_9_wp := wp_of c130_9.eq_1
@[go_sem] def c130_10_wp := wp_of c130_10.eq_1
@[go_sem] def c130_11_wp := wp_of c130_11.eq_1
@[go_sem] def c130_12_wp := wp_of c130_12.eq_1
@[go_sem] def c130_13_wp := wp_of c130_13.eq_1
@[go_sem] def c130_14_wp := wp_of c130_14.eq_1
@[go_sem] def c130_15_wp := wp_of c130_15.eq_1
def c130 : AFn := ⟨20, [.t 6, .t 7], c130_15⟩
theorem c130_ok : compF Tryz.prog Tryz.f130 = some c130 := by kernel_rfl
theorem a130 {args : List AV} {σ : ASt} {R : AV → ASt → Prop} (hl : args.length ≤ 20) (h : c130_15.wp Tryz.prog (RetQ [.t 6, .t 7] R) (init args) σ) : ACalls Tryz.prog 130 args σ R := acalls_of Tryz.func130 c130_ok hl h
end Go.A
namespace Go.A
open Go.Proofs
theorem cut_ok (l : List UInt8) (n : Nat) : Pure Tryz.prog 9 [.str l, .int .i64 n] (.str (l.take n)) := by
 intro σ
 refine a9 (by simp) ?_
 by_cases h : n < l.length
 ·have h' : (n : Int) < l.length := by omega
  simp (disch := first | assumption | omega) only [go_sem, reduceCtorEq, Nat.reduceEqDiff, ↓reduceIte, h']
  exact retC_by (by repeat' (first | exact Drop.refl _ | with_reducible refine Drop.off ?_ (by assumption))) (.refl _) ⟨rfl, rfl⟩
 ·have h' : ¬ (n : Int) < l.length := by omega
  simp (disch := first | assumption | omega) only [go_sem, reduceCtorEq, Nat.reduceEqDiff, ↓reduceIte, h']
  exact retC_by (by repeat' (first | exact Drop.refl _ | with_reducible refine Drop.off ?_ (by assumption))) (.refl _) ⟨by rw [List.take_of_length_le (by omega)]; rfl, rfl⟩
def greatC (c : UInt8) : UInt8 := if 97 ≤ c.toNat ∧ c.toNat ≤ 122 then UInt8.ofNat (c.toNat - 32) else c
def greatP (l : List UInt8) : List UInt8 := l.map greatC
end Go.A
