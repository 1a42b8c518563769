/- Part 5 of what ParseOrder leans on: Shelf Wz Wa CodeGa Ga CodeGb Gb CodeGc Gc CodeGd Gd CodeH Tg Za Zu Gp Wc Ea. -/
import Derived.Shelf.Strings.Builder1
import Derived.Shelf.Strings.Builder2
import Derived.Shelf.Strings.Trim
import Derived.Shelf.Small.Utf8
import Derived.Shelf.Small.Strs
import Derived.Shelf.Small.Wraps
import Derived.Shelf.Strings.BuilderF
import Derived.Shelf.Strings.BuilderK
import Derived.Shelf.Strings.BuilderRune
import Derived.Shelf.Utf8.AppendRunePlain
import Derived.Shelf.Utf8.RuneCount
import Derived.Shelf.Strings.Builder2Cap
import Derived.Shelf.Strconv.Itoa0
import Derived.Shelf.Strconv.Itoa1
import Derived.Shelf.LaysM
import Derived.Shelf.Strconv.Itoa2
import Derived.Shelf.Strconv.Itoa3
import Derived.Shelf.Strings.Search1
import Derived.Shelf.Strings.Search2
import Derived.Shelf.Strings.Search3
import Derived.Shelf.Strings.Cut
import Derived.Shelf.Strings.Count
import Derived.Shelf.Strings.Shaped
import Derived.Shelf.Strings.Prefix
import Derived.Shelf.Strings.Split
import Derived.Shelf.Strings.Replace
import Derived.Shelf.Strings.SplitShaped
import Derived.Shelf.Strings.Runes
import Derived.Shelf.Strings.RuneCount
import Derived.Shelf.Strings.AsciiSet
import Derived.Shelf.Unicode.DecodeSlow
import Derived.Shelf.Unicode.DecodeAny
import Derived.Shelf.Strings.BuilderCap
import Derived.Test.YtkgondgecdmjpaaGreatDoorProg
import Derived.Lib.ItoaMem
import Derived.KernelRfl
import Derived.Lib.MapLaws
import Derived.Lib.RuneCount
import Derived.Lib.LaidU8
import Derived.Lib.ItoaNum
import Derived.Test.YtkgondgecdmjpaaGreatDoorZParseOrderd
set_option linter.defProp false
set_option linter.unusedSimpArgs false
set_option linter.unusedVariables false
set_option maxRecDepth 100000
namespace Go.Proofs
open Go.Shelf
def Tryz.lays169_ren : Go.Shelf.Ren := ⟨fun | 169 => 21 | n => n, fun | 70 => 56 | 9 => 9 | 0 => 0 | 72 => 59 | 37 => 57 | 127 => 85 | 3 => 3 | 5 => 5 | n => n, fun | n => n⟩
theorem Tryz.lays169 : Go.Proofs.Lays.n169 Tryz.prog Tryz.lays169_ren := {
  mixed := by kernel_rfl
  f169 := Tryz.func21.trans (congrArg some (by kernel_rfl))
  t0 := Tryz.underlying0
  a0 := Tryz.isAgg0
  z0 := Tryz.sizeOf0
  v0 := Tryz.zeroValue0
  t3 := Tryz.underlying3
  a3 := Tryz.isAgg3
  z3 := Tryz.sizeOf3
  v3 := Tryz.zeroValue3
  t9 := Tryz.underlying9
  a9 := Tryz.isAgg9
  z9 := Tryz.sizeOf9
  v9 := Tryz.zeroValue9
  t37 := Tryz.underlying57
  a37 := Tryz.isAgg57
  z37 := Tryz.sizeOf57
  v37 := Tryz.zeroValue57
  t70 := Tryz.underlying56
  a70 := Tryz.isAgg56
  z70 := Tryz.sizeOf56
  v70 := Tryz.zeroValue56
  t72 := Tryz.underlying59
  a72 := Tryz.isAgg59
  z72 := Tryz.sizeOf59
  v72 := Tryz.zeroValue59
  t127 := Tryz.underlying85
  a127 := Tryz.isAgg85
  z127 := Tryz.sizeOf85
  v127 := Tryz.zeroValue85 }
theorem Tryz.Builder_Extra_169 : Builder.Extra Tryz.prog Tryz.lays169_ren := {
  sizeBuilder := by kernel_rfl
  liesBuilder := by kernel_rfl
  t5 := Tryz.underlying5
  a5 := Tryz.isAgg5
  z5 := Tryz.sizeOf5
  v5 := Tryz.zeroValue5
  infoByte := by kernel_rfl
  cellsByte := by kernel_rfl
  sizeByte := by kernel_rfl
  neB5 := by decide }
def Tryz.lays162_ren : Go.Shelf.Ren := ⟨fun | 162 => 56 | 232 => 78 | 227 => 79 | 234 => 80 | 236 => 81 | 228 => 100 | 271 => 101 | 151 => 102 | 120 => 119 | 197 => 64 | 152 => 120 | 260 => 85 | 137 => 133 | 119 => 134 | 224 => 128 | 225 => 127 | 217 => 126 | 266 => 136 | n => n, fun | 9 => 9 | 4 => 4 | 3 => 3 | 5 => 5 | 117 => 115 | 116 => 114 | 0 => 0 | 124 => 118 | 21 => 21 | 105 => 91 | 46 => 139 | 119 => 138 | 139 => 142 | 138 => 141 | n => n, fun | 3 => 1 | 4 => 2 | n => n⟩
theorem Tryz.lays162 : Go.Proofs.Lays.n162 Tryz.prog Tryz.lays162_ren := {
  mixed := by kernel_rfl
  f119 := Tryz.func134.trans (congrArg some (by kernel_rfl))
  f120 := Tryz.func119.trans (congrArg some (by kernel_rfl))
  f137 := Tryz.func133.trans (congrArg some (by kernel_rfl))
  f151 := Tryz.func102.trans (congrArg some (by kernel_rfl))
  f152 := Tryz.func120.trans (congrArg some (by kernel_rfl))
  f162 := Tryz.func56.trans (congrArg some (by kernel_rfl))
  f197 := Tryz.func64.trans (congrArg some (by kernel_rfl))
  f217 := Tryz.func126.trans (congrArg some (by kernel_rfl))
  f224 := Tryz.func128.trans (congrArg some (by kernel_rfl))
  f225 := Tryz.func127.trans (congrArg some (by kernel_rfl))
  f227 := Tryz.func79.trans (congrArg some (by kernel_rfl))
  f228 := Tryz.func100.trans (congrArg some (by kernel_rfl))
  f232 := Tryz.func78.trans (congrArg some (by kernel_rfl))
  f234 := Tryz.func80.trans (congrArg some (by kernel_rfl))
  f236 := Tryz.func81.trans (congrArg some (by kernel_rfl))
  f260 := Tryz.func85.trans (congrArg some (by kernel_rfl))
  f266 := Tryz.func136.trans (congrArg some (by kernel_rfl))
  f271 := Tryz.func101.trans (congrArg some (by kernel_rfl))
  t0 := Tryz.underlying0
  a0 := Tryz.isAgg0
  z0 := Tryz.sizeOf0
  v0 := Tryz.zeroValue0
  t3 := Tryz.underlying3
  a3 := Tryz.isAgg3
  z3 := Tryz.sizeOf3
  v3 := Tryz.zeroValue3
  t4 := Tryz.underlying4
  a4 := Tryz.isAgg4
  z4 := Tryz.sizeOf4
  v4 := Tryz.zeroValue4
  t5 := Tryz.underlying5
  a5 := Tryz.isAgg5
  z5 := Tryz.sizeOf5
  v5 := Tryz.zeroValue5
  t9 := Tryz.underlying9
  a9 := Tryz.isAgg9
  z9 := Tryz.sizeOf9
  v9 := Tryz.zeroValue9
  t21 := Tryz.underlying21
  a21 := Tryz.isAgg21
  z21 := Tryz.sizeOf21
  v21 := Tryz.zeroValue21
  t46 := Tryz.underlying139
  a46 := Tryz.isAgg139
  z46 := Tryz.sizeOf139
  v46 := Tryz.zeroValue139
  t105 := Tryz.underlying91
  a105 := Tryz.isAgg91
  z105 := Tryz.sizeOf91
  v105 := Tryz.zeroValue91
  t116 := Tryz.underlying114
  a116 := Tryz.isAgg114
  z116 := Tryz.sizeOf114
  t117 := Tryz.underlying115
  a117 := Tryz.isAgg115
  z117 := Tryz.sizeOf115
  v117 := Tryz.zeroValue115
  t119 := Tryz.underlying138
  a119 := Tryz.isAgg138
  z119 := Tryz.sizeOf138
  t124 := Tryz.underlying118
  a124 := Tryz.isAgg118
  z124 := Tryz.sizeOf118
  v124 := Tryz.zeroValue118
  t138 := Tryz.underlying141
  a138 := Tryz.isAgg141
  z138 := Tryz.sizeOf141
  v138 := Tryz.zeroValue141
  t139 := Tryz.underlying142
  a139 := Tryz.isAgg142
  z139 := Tryz.sizeOf142
  v139 := Tryz.zeroValue142
  g3 := by kernel_rfl
  g4 := by kernel_rfl }
open Go.RowKit in
theorem Tryz.strings_TrimRight_one (s : ByteArray) (c : UInt8) (hc : c.toNat < 128) (w : World) (hs : s.size ≤ 9223372036854775807) :
    Calls Tryz.prog 56 #[.string s, .string ⟨#[c]⟩] w fun e w' => e = .returned (.string ⟨(Lib.trimRightB s.data.toList c).toArray⟩) ∧ w' = w := Any.strings_TrimRight_one Tryz.lays162 s c hc w hs
def Tryz.lays118_ren : Go.Shelf.Ren := ⟨fun | 118 => 70 | n => n, fun | 21 => 21 | 3 => 3 | 4 => 4 | n => n, fun | n => n⟩
theorem Tryz.lays118 : Go.Proofs.Lays.n118 Tryz.prog Tryz.lays118_ren := {
  mixed := by kernel_rfl
  f118 := Tryz.func70.trans (congrArg some (by kernel_rfl))
  t3 := Tryz.underlying3
  a3 := Tryz.isAgg3
  z3 := Tryz.sizeOf3
  v3 := Tryz.zeroValue3
  t4 := Tryz.underlying4
  a4 := Tryz.isAgg4
  z4 := Tryz.sizeOf4
  v4 := Tryz.zeroValue4
  t21 := Tryz.underlying21
  a21 := Tryz.isAgg21
  z21 := Tryz.sizeOf21
  v21 := Tryz.zeroValue21 }
theorem Tryz.utf8_RuneLen (r : Int) (w : World) :
    Calls Tryz.prog 70 #[.int .i32 r] w fun e w' => e = .returned (.int .i64 (Lib.runeLen r)) ∧ w' = w := Any.utf8_RuneLen Tryz.lays118 r w
def Tryz.lays210_ren : Go.Shelf.Ren := ⟨fun | 210 => 130 | 206 => 90 | n => n, fun | 9 => 9 | 4 => 4 | 3 => 3 | n => n, fun | n => n⟩
def Tryz.lays103_ren : Go.Shelf.Ren := ⟨fun | 103 => 110 | 210 => 130 | 206 => 90 | n => n, fun | 9 => 9 | 4 => 4 | 24 => 146 | 3 => 3 | n => n, fun | n => n⟩
theorem Tryz.lays103 : Go.Proofs.Lays.n103 Tryz.prog Tryz.lays103_ren := {
  mixed := by kernel_rfl
  f103 := Tryz.func110.trans (congrArg some (by kernel_rfl))
  f206 := Tryz.func90.trans (congrArg some (by kernel_rfl))
  f210 := Tryz.func130.trans (congrArg some (by kernel_rfl))
  t3 := Tryz.underlying3
  a3 := Tryz.isAgg3
  z3 := Tryz.sizeOf3
  v3 := Tryz.zeroValue3
  t4 := Tryz.underlying4
  a4 := Tryz.isAgg4
  z4 := Tryz.sizeOf4
  v4 := Tryz.zeroValue4
  t9 := Tryz.underlying9
  a9 := Tryz.isAgg9
  z9 := Tryz.sizeOf9
  v9 := Tryz.zeroValue9
  t24 := Tryz.underlying146
  a24 := Tryz.isAgg146
  z24 := Tryz.sizeOf146
  v24 := Tryz.zeroValue146 }
open Go.RowKit in
theorem Tryz.strings_CutPrefix (s p : ByteArray) (w : World) :
    Calls Tryz.prog 110 #[.string s, .string p] w fun e w' => e = .returned (.tuple #[.string ⟨(Lib.trimPrefix s.data.toList p.data.toList).toArray⟩, .bool (Lib.hasPrefix s.data.toList p.data.toList)]) ∧ w' = w := Any.strings_CutPrefix Tryz.lays103 s p w
def Tryz.lays195_ren : Go.Shelf.Ren := ⟨fun | 195 => 48 | n => n, fun | 9 => 9 | 3 => 3 | 0 => 0 | 4 => 4 | n => n, fun | n => n⟩
theorem Tryz.lays195 : Go.Proofs.Lays.n195 Tryz.prog Tryz.lays195_ren := {
  mixed := by kernel_rfl
  f195 := Tryz.func48.trans (congrArg some (by kernel_rfl))
  t0 := Tryz.underlying0
  a0 := Tryz.isAgg0
  z0 := Tryz.sizeOf0
  v0 := Tryz.zeroValue0
  t3 := Tryz.underlying3
  a3 := Tryz.isAgg3
  z3 := Tryz.sizeOf3
  v3 := Tryz.zeroValue3
  t4 := Tryz.underlying4
  a4 := Tryz.isAgg4
  z4 := Tryz.sizeOf4
  v4 := Tryz.zeroValue4
  t9 := Tryz.underlying9
  a9 := Tryz.isAgg9
  z9 := Tryz.sizeOf9
  v9 := Tryz.zeroValue9 }
open Go.RowKit in
theorem Tryz.utf8_RuneCountInString (s : ByteArray) (w : World) (hs : s.size < 9223372036854775807) :
    Calls Tryz.prog 48 #[.string s] w fun e w' => e = .returned (.int .i64 (Lib.runeCount s)) ∧ ∃ pos, w' = w.iter s pos := Any.utf8_RuneCountInString Tryz.lays195 s w hs
def Tryz.lays283_ren : Go.Shelf.Ren := ⟨fun | 283 => 96 | n => n, fun | 3 => 3 | 9 => 9 | 4 => 4 | n => n, fun | n => n⟩
theorem Tryz.lays283 : Go.Proofs.Lays.n283 Tryz.prog Tryz.lays283_ren := {
  mixed := by kernel_rfl
  f283 := Tryz.func96.trans (congrArg some (by kernel_rfl))
  t3 := Tryz.underlying3
  a3 := Tryz.isAgg3
  z3 := Tryz.sizeOf3
  v3 := Tryz.zeroValue3
  t4 := Tryz.underlying4
  a4 := Tryz.isAgg4
  z4 := Tryz.sizeOf4
  v4 := Tryz.zeroValue4
  t9 := Tryz.underlying9
  a9 := Tryz.isAgg9
  z9 := Tryz.sizeOf9
  v9 := Tryz.zeroValue9 }
open Go.Lib in
theorem Tryz.internal_strconv_small (i : Nat) (h : i < 100) (w : World) :
    Calls Tryz.prog 96 #[.int .i64 i] w fun e w' => e = .returned (.string ⟨(Lib.decDigits i).toArray⟩) ∧ w' = w := Any.internal_strconv_small Tryz.lays283 i h w
def Tryz.laysM284_ren : Go.Shelf.Ren := ⟨fun | 284 => 97 | 129 => 115 | 317 => 114 | 318 => 116 | n => n, fun | 53 => 97 | 3 => 3 | 212 => 152 | 0 => 0 | 4 => 4 | 46 => 139 | 5 => 5 | 9 => 9 | n => n, fun | 17 => 3 | n => n⟩
theorem Tryz.laysM284 : Go.Proofs.LaysM.n284 Tryz.prog Tryz.laysM284_ren := {
  mixed := by kernel_rfl
  f129 := Tryz.func115.trans (congrArg some (by kernel_rfl))
  f284 := Tryz.func97.trans (congrArg some (by kernel_rfl))
  f317 := Tryz.func114.trans (congrArg some (by kernel_rfl))
  f318 := Tryz.func116.trans (congrArg some (by kernel_rfl))
  t0 := Tryz.underlying0
  a0 := Tryz.isAgg0
  z0 := Tryz.sizeOf0
  v0 := Tryz.zeroValue0
  t3 := Tryz.underlying3
  a3 := Tryz.isAgg3
  z3 := Tryz.sizeOf3
  v3 := Tryz.zeroValue3
  t4 := Tryz.underlying4
  a4 := Tryz.isAgg4
  z4 := Tryz.sizeOf4
  v4 := Tryz.zeroValue4
  t5 := Tryz.underlying5
  a5 := Tryz.isAgg5
  z5 := Tryz.sizeOf5
  v5 := Tryz.zeroValue5
  t9 := Tryz.underlying9
  a9 := Tryz.isAgg9
  z9 := Tryz.sizeOf9
  v9 := Tryz.zeroValue9
  t46 := Tryz.underlying139
  a46 := Tryz.isAgg139
  z46 := Tryz.sizeOf139
  v46 := Tryz.zeroValue139
  t53 := Tryz.underlying97
  a53 := Tryz.isAgg97
  z53 := Tryz.sizeOf97
  v53 := Tryz.zeroValue97
  t212 := Tryz.underlying152
  a212 := Tryz.isAgg152
  z212 := Tryz.sizeOf152
  v212 := Tryz.zeroValue152
  g17 := by kernel_rfl
  i0 := by kernel_rfl
  i3 := by kernel_rfl
  i4 := by kernel_rfl
  i5 := by kernel_rfl
  i9 := by kernel_rfl
  i46 := by kernel_rfl
  i53 := by kernel_rfl
  i212 := by kernel_rfl
  m17 := by kernel_rfl }
open Go.Lib in
theorem Tryz.internal_strconv_numDigits (u : Nat) (h1 : 1 ≤ u) (h2 : u < 18446744073709551616) (w : World) (htab : Lib.TabIs Tryz.prog w "internal/strconv.uint64pow10" .u64 Lib.pow10Tab) :
    Calls Tryz.prog 97 #[.int .u64 u] w fun e w' => e = .returned (.int .i64 (Lib.nDigits u)) ∧ w' = w := Any.internal_strconv_numDigits Tryz.laysM284 u h1 h2 w htab
def Tryz.lays285_ren : Go.Shelf.Ren := ⟨fun | 285 => 98 | n => n, fun | 37 => 57 | 53 => 97 | 3 => 3 | 4 => 4 | 51 => 145 | 9 => 9 | 5 => 5 | 0 => 0 | n => n, fun | n => n⟩
theorem Tryz.lays285 : Go.Proofs.Lays.n285 Tryz.prog Tryz.lays285_ren := {
  mixed := by kernel_rfl
  f285 := Tryz.func98.trans (congrArg some (by kernel_rfl))
  t0 := Tryz.underlying0
  a0 := Tryz.isAgg0
  z0 := Tryz.sizeOf0
  v0 := Tryz.zeroValue0
  t3 := Tryz.underlying3
  a3 := Tryz.isAgg3
  z3 := Tryz.sizeOf3
  v3 := Tryz.zeroValue3
  t4 := Tryz.underlying4
  a4 := Tryz.isAgg4
  z4 := Tryz.sizeOf4
  v4 := Tryz.zeroValue4
  t5 := Tryz.underlying5
  a5 := Tryz.isAgg5
  z5 := Tryz.sizeOf5
  v5 := Tryz.zeroValue5
  t9 := Tryz.underlying9
  a9 := Tryz.isAgg9
  z9 := Tryz.sizeOf9
  v9 := Tryz.zeroValue9
  t37 := Tryz.underlying57
  a37 := Tryz.isAgg57
  z37 := Tryz.sizeOf57
  v37 := Tryz.zeroValue57
  t51 := Tryz.underlying145
  a51 := Tryz.isAgg145
  z51 := Tryz.sizeOf145
  v51 := Tryz.zeroValue145
  t53 := Tryz.underlying97
  a53 := Tryz.isAgg97
  z53 := Tryz.sizeOf97
  v53 := Tryz.zeroValue97 }
open Go.RowKit Go.Sort Go.Lib in
theorem Tryz.internal_strconv_formatBase10 (blk off cap : Nat) (u : Nat) (d : Array UInt8) (w : World) (hH : Holds (fun (b : UInt8) => Value.int .u8 (b.toNat : Int)) w blk off d) (hu : u < 10 ^ d.size) (hu64 : u < 18446744073709551616) (hsz : d.size < 4611686018427387904) :
    Calls Tryz.prog 98 #[.slice (some ⟨blk, off, none⟩) d.size cap, .int .u64 u] w fun e w' =>
      e = .returned (.tuple #[]) ∧ ∃ (n v' : Nat) (dk : Array UInt8), w' = (putRow (fun (b : UInt8) => Value.int .u8 (b.toNat : Int)) w blk off dk).drewN n ∧ FmtInv d.size u 0 v' dk := Any.internal_strconv_formatBase10 Tryz.lays285 blk off cap u d w hH hu hu64 hsz
def Tryz.laysM246_ren : Go.Shelf.Ren := ⟨fun | 246 => 105 | 283 => 96 | 284 => 97 | 285 => 98 | 286 => 99 | 129 => 115 | 317 => 114 | 318 => 116 | 319 => 117 | 320 => 118 | 337 => 131 | 338 => 132 | n => n, fun | 2 => 2 | 3 => 3 | 9 => 9 | 4 => 4 | 171 => 131 | 0 => 0 | 53 => 97 | 37 => 57 | 5 => 5 | 173 => 134 | 212 => 152 | 51 => 145 | 20 => 20 | 213 => 153 | 46 => 139 | 232 => 165 | 233 => 166 | n => n, fun | 17 => 3 | 18 => 5 | 19 => 6 | n => n⟩
def Tryz.laysM243_ren : Go.Shelf.Ren := ⟨fun | 243 => 83 | 246 => 105 | 283 => 96 | 284 => 97 | 285 => 98 | 286 => 99 | 129 => 115 | 317 => 114 | 318 => 116 | 319 => 117 | 320 => 118 | 337 => 131 | 338 => 132 | n => n, fun | 3 => 3 | 9 => 9 | 2 => 2 | 4 => 4 | 171 => 131 | 0 => 0 | 53 => 97 | 37 => 57 | 5 => 5 | 173 => 134 | 212 => 152 | 51 => 145 | 20 => 20 | 213 => 153 | 46 => 139 | 232 => 165 | 233 => 166 | n => n, fun | 17 => 3 | 18 => 5 | 19 => 6 | n => n⟩
def Tryz.laysM171_ren : Go.Shelf.Ren := ⟨fun | 171 => 62 | 243 => 83 | 246 => 105 | 283 => 96 | 284 => 97 | 285 => 98 | 286 => 99 | 129 => 115 | 317 => 114 | 318 => 116 | 319 => 117 | 320 => 118 | 337 => 131 | 338 => 132 | n => n, fun | 3 => 3 | 9 => 9 | 2 => 2 | 4 => 4 | 171 => 131 | 0 => 0 | 53 => 97 | 37 => 57 | 5 => 5 | 173 => 134 | 212 => 152 | 51 => 145 | 20 => 20 | 213 => 153 | 46 => 139 | 232 => 165 | 233 => 166 | n => n, fun | 17 => 3 | 18 => 5 | 19 => 6 | n => n⟩
theorem Tryz.laysM171 : Go.Proofs.LaysM.n171 Tryz.prog Tryz.laysM171_ren := {
  mixed := by kernel_rfl
  f129 := Tryz.func115.trans (congrArg some (by kernel_rfl))
  f171 := Tryz.func62.trans (congrArg some (by kernel_rfl))
  f243 := Tryz.func83.trans (congrArg some (by kernel_rfl))
  f246 := Tryz.func105.trans (congrArg some (by kernel_rfl))
  f283 := Tryz.func96.trans (congrArg some (by kernel_rfl))
  f284 := Tryz.func97.trans (congrArg some (by kernel_rfl))
  f285 := Tryz.func98.trans (congrArg some (by kernel_rfl))
  f286 := Tryz.func99.trans (congrArg some (by kernel_rfl))
  f317 := Tryz.func114.trans (congrArg some (by kernel_rfl))
  f318 := Tryz.func116.trans (congrArg some (by kernel_rfl))
  f319 := Tryz.func117.trans (congrArg some (by kernel_rfl))
  f320 := Tryz.func118.trans (congrArg some (by kernel_rfl))
  f337 := Tryz.func131.trans (congrArg some (by kernel_rfl))
  f338 := Tryz.func132.trans (congrArg some (by kernel_rfl))
  t0 := Tryz.underlying0
  a0 := Tryz.isAgg0
  z0 := Tryz.sizeOf0
  v0 := Tryz.zeroValue0
  t2 := Tryz.underlying2
  a2 := Tryz.isAgg2
  z2 := Tryz.sizeOf2
  v2 := Tryz.zeroValue2
  t3 := Tryz.underlying3
  a3 := Tryz.isAgg3
  z3 := Tryz.sizeOf3
  v3 := Tryz.zeroValue3
  t4 := Tryz.underlying4
  a4 := Tryz.isAgg4
  z4 := Tryz.sizeOf4
  v4 := Tryz.zeroValue4
  t5 := Tryz.underlying5
  a5 := Tryz.isAgg5
  z5 := Tryz.sizeOf5
  v5 := Tryz.zeroValue5
  t9 := Tryz.underlying9
  a9 := Tryz.isAgg9
  z9 := Tryz.sizeOf9
  v9 := Tryz.zeroValue9
  t20 := Tryz.underlying20
  a20 := Tryz.isAgg20
  z20 := Tryz.sizeOf20
  v20 := Tryz.zeroValue20
  t37 := Tryz.underlying57
  a37 := Tryz.isAgg57
  z37 := Tryz.sizeOf57
  v37 := Tryz.zeroValue57
  t46 := Tryz.underlying139
  a46 := Tryz.isAgg139
  z46 := Tryz.sizeOf139
  v46 := Tryz.zeroValue139
  t51 := Tryz.underlying145
  a51 := Tryz.isAgg145
  z51 := Tryz.sizeOf145
  v51 := Tryz.zeroValue145
  t53 := Tryz.underlying97
  a53 := Tryz.isAgg97
  z53 := Tryz.sizeOf97
  v53 := Tryz.zeroValue97
  t171 := Tryz.underlying131
  a171 := Tryz.isAgg131
  z171 := Tryz.sizeOf131
  v171 := Tryz.zeroValue131
  t173 := Tryz.underlying134
  a173 := Tryz.isAgg134
  z173 := Tryz.sizeOf134
  v173 := Tryz.zeroValue134
  t212 := Tryz.underlying152
  a212 := Tryz.isAgg152
  z212 := Tryz.sizeOf152
  v212 := Tryz.zeroValue152
  t213 := Tryz.underlying153
  a213 := Tryz.isAgg153
  z213 := Tryz.sizeOf153
  t232 := Tryz.underlying165
  a232 := Tryz.isAgg165
  z232 := Tryz.sizeOf165
  v232 := Tryz.zeroValue165
  t233 := Tryz.underlying166
  a233 := Tryz.isAgg166
  z233 := Tryz.sizeOf166
  v233 := Tryz.zeroValue166
  g17 := by kernel_rfl
  g18 := by kernel_rfl
  g19 := by kernel_rfl
  i0 := by kernel_rfl
  i2 := by kernel_rfl
  i3 := by kernel_rfl
  i4 := by kernel_rfl
  i5 := by kernel_rfl
  i9 := by kernel_rfl
  i20 := by kernel_rfl
  i37 := by kernel_rfl
  i46 := by kernel_rfl
  i51 := by kernel_rfl
  i53 := by kernel_rfl
  i171 := by kernel_rfl
  i173 := by kernel_rfl
  i212 := by kernel_rfl
  i232 := by kernel_rfl
  i233 := by kernel_rfl
  m17 := by kernel_rfl
  m18 := by kernel_rfl
  m19 := by kernel_rfl }
open Go.RowKit Go.Sort Go.Lib in
theorem Tryz.strconv_Itoa (n : Int) (h0 : -9223372036854775808 ≤ n) (h1 : n ≤ 9223372036854775807) (w : World) (htab : Lib.TabIs Tryz.prog w "internal/strconv.uint64pow10" .u64 Lib.pow10Tab) :
    Calls Tryz.prog 62 #[.int .i64 n] w fun e w' => e = .returned (.string ⟨(Lib.itoa n).toArray⟩) ∧ ∃ k os, w' = grow (w.drewN k) os := Any.strconv_Itoa Tryz.laysM171 n h0 h1 w htab
def Tryz.lays219_ren : Go.Shelf.Ren := ⟨fun | 219 => 109 | 217 => 126 | 225 => 127 | 224 => 128 | 267 => 129 | 266 => 136 | 314 => 137 | n => n, fun | 9 => 9 | 3 => 3 | 4 => 4 | 5 => 5 | 46 => 139 | 146 => 163 | 51 => 145 | n => n, fun | 1 => 4 | n => n⟩
theorem Tryz.lays219 : Go.Proofs.Lays.n219 Tryz.prog Tryz.lays219_ren := {
  mixed := by kernel_rfl
  f217 := Tryz.func126.trans (congrArg some (by kernel_rfl))
  f219 := Tryz.func109.trans (congrArg some (by kernel_rfl))
  f224 := Tryz.func128.trans (congrArg some (by kernel_rfl))
  f225 := Tryz.func127.trans (congrArg some (by kernel_rfl))
  f266 := Tryz.func136.trans (congrArg some (by kernel_rfl))
  f267 := Tryz.func129.trans (congrArg some (by kernel_rfl))
  f314 := Tryz.func137.trans (congrArg some (by kernel_rfl))
  t3 := Tryz.underlying3
  a3 := Tryz.isAgg3
  z3 := Tryz.sizeOf3
  v3 := Tryz.zeroValue3
  t4 := Tryz.underlying4
  a4 := Tryz.isAgg4
  z4 := Tryz.sizeOf4
  v4 := Tryz.zeroValue4
  t5 := Tryz.underlying5
  a5 := Tryz.isAgg5
  z5 := Tryz.sizeOf5
  v5 := Tryz.zeroValue5
  t9 := Tryz.underlying9
  a9 := Tryz.isAgg9
  z9 := Tryz.sizeOf9
  v9 := Tryz.zeroValue9
  t46 := Tryz.underlying139
  a46 := Tryz.isAgg139
  z46 := Tryz.sizeOf139
  v46 := Tryz.zeroValue139
  t51 := Tryz.underlying145
  a51 := Tryz.isAgg145
  z51 := Tryz.sizeOf145
  v51 := Tryz.zeroValue145
  t146 := Tryz.underlying163
  a146 := Tryz.isAgg163
  z146 := Tryz.sizeOf163
  v146 := Tryz.zeroValue163
  g1 := by kernel_rfl }
open Go.RowKit Go.Lib in
theorem Tryz.stringslite_Index_one (s : ByteArray) (c : UInt8) (w : World) :
    Calls Tryz.prog 109 #[.string s, .string ⟨#[c]⟩] w fun e w' => e = .returned (.int .i64 (Lib.indexByte s.data.toList c)) ∧ w' = w := Any.stringslite_Index_one Tryz.lays219 s c w
def Tryz.lays144_ren : Go.Shelf.Ren := ⟨fun | 144 => 73 | 143 => 91 | 219 => 109 | 217 => 126 | 225 => 127 | 224 => 128 | 267 => 129 | 266 => 136 | 314 => 137 | n => n, fun | 9 => 9 | 4 => 4 | 3 => 3 | 5 => 5 | 46 => 139 | 146 => 163 | 51 => 145 | n => n, fun | 1 => 4 | n => n⟩
theorem Tryz.lays144 : Go.Proofs.Lays.n144 Tryz.prog Tryz.lays144_ren := {
  mixed := by kernel_rfl
  f143 := Tryz.func91.trans (congrArg some (by kernel_rfl))
  f144 := Tryz.func73.trans (congrArg some (by kernel_rfl))
  f217 := Tryz.func126.trans (congrArg some (by kernel_rfl))
  f219 := Tryz.func109.trans (congrArg some (by kernel_rfl))
  f224 := Tryz.func128.trans (congrArg some (by kernel_rfl))
  f225 := Tryz.func127.trans (congrArg some (by kernel_rfl))
  f266 := Tryz.func136.trans (congrArg some (by kernel_rfl))
  f267 := Tryz.func129.trans (congrArg some (by kernel_rfl))
  f314 := Tryz.func137.trans (congrArg some (by kernel_rfl))
  t3 := Tryz.underlying3
  a3 := Tryz.isAgg3
  z3 := Tryz.sizeOf3
  v3 := Tryz.zeroValue3
  t4 := Tryz.underlying4
  a4 := Tryz.isAgg4
  z4 := Tryz.sizeOf4
  v4 := Tryz.zeroValue4
  t5 := Tryz.underlying5
  a5 := Tryz.isAgg5
  z5 := Tryz.sizeOf5
  v5 := Tryz.zeroValue5
  t9 := Tryz.underlying9
  a9 := Tryz.isAgg9
  z9 := Tryz.sizeOf9
  v9 := Tryz.zeroValue9
  t46 := Tryz.underlying139
  a46 := Tryz.isAgg139
  z46 := Tryz.sizeOf139
  v46 := Tryz.zeroValue139
  t51 := Tryz.underlying145
  a51 := Tryz.isAgg145
  z51 := Tryz.sizeOf145
  v51 := Tryz.zeroValue145
  t146 := Tryz.underlying163
  a146 := Tryz.isAgg163
  z146 := Tryz.sizeOf163
  v146 := Tryz.zeroValue163
  g1 := by kernel_rfl }
open Go.RowKit Go.Lib in
theorem Tryz.strings_Contains_one (s : ByteArray) (c : UInt8) (w : World) :
    Calls Tryz.prog 73 #[.string s, .string ⟨#[c]⟩] w fun e w' => e = .returned (.bool (decide (0 ≤ Lib.indexByte s.data.toList c))) ∧ w' = w := Any.strings_Contains_one Tryz.lays144 s c w
def Tryz.lays99_ren : Go.Shelf.Ren := ⟨fun | 99 => 72 | 206 => 90 | n => n, fun | 9 => 9 | 4 => 4 | 3 => 3 | n => n, fun | n => n⟩
theorem Tryz.lays99 : Go.Proofs.Lays.n99 Tryz.prog Tryz.lays99_ren := {
  mixed := by kernel_rfl
  f99 := Tryz.func72.trans (congrArg some (by kernel_rfl))
  f206 := Tryz.func90.trans (congrArg some (by kernel_rfl))
  t3 := Tryz.underlying3
  a3 := Tryz.isAgg3
  z3 := Tryz.sizeOf3
  v3 := Tryz.zeroValue3
  t4 := Tryz.underlying4
  a4 := Tryz.isAgg4
  z4 := Tryz.sizeOf4
  v4 := Tryz.zeroValue4
  t9 := Tryz.underlying9
  a9 := Tryz.isAgg9
  z9 := Tryz.sizeOf9
  v9 := Tryz.zeroValue9 }
open Go.RowKit Go.Lib in
theorem Tryz.strings_HasPrefix (s p : ByteArray) (w : World) :
    Calls Tryz.prog 72 #[.string s, .string p] w fun e w' => e = .returned (.bool (Lib.hasPrefix s.data.toList p.data.toList)) ∧ w' = w := Any.strings_HasPrefix Tryz.lays99 s p w
def Tryz.lays154_ren : Go.Shelf.Ren := ⟨fun | 154 => 82 | 138 => 103 | 165 => 104 | 143 => 91 | 166 => 29 | 197 => 64 | 169 => 21 | 195 => 48 | 218 => 121 | 240 => 53 | 241 => 122 | 219 => 109 | 260 => 85 | 276 => 76 | 277 => 135 | 217 => 126 | 225 => 127 | 224 => 128 | 267 => 129 | 266 => 136 | 314 => 137 | n => n, fun | 9 => 9 | 3 => 3 | 4 => 4 | 72 => 59 | 0 => 0 | 76 => 76 | 105 => 91 | 21 => 21 | 5 => 5 | 70 => 56 | 20 => 20 | 37 => 57 | 75 => 75 | 127 => 85 | 164 => 110 | 46 => 139 | 119 => 138 | 139 => 142 | 138 => 141 | 146 => 163 | 51 => 145 | 80 => 61 | n => n, fun | 1 => 4 | 3 => 1 | 4 => 2 | n => n⟩
def Tryz.lays155_ren : Go.Shelf.Ren := ⟨fun | 155 => 57 | 154 => 82 | 138 => 103 | 165 => 104 | 143 => 91 | 166 => 29 | 197 => 64 | 169 => 21 | 195 => 48 | 218 => 121 | 240 => 53 | 241 => 122 | 219 => 109 | 260 => 85 | 276 => 76 | 277 => 135 | 217 => 126 | 225 => 127 | 224 => 128 | 267 => 129 | 266 => 136 | 314 => 137 | n => n, fun | 9 => 9 | 3 => 3 | 4 => 4 | 72 => 59 | 0 => 0 | 76 => 76 | 105 => 91 | 21 => 21 | 5 => 5 | 70 => 56 | 20 => 20 | 37 => 57 | 75 => 75 | 127 => 85 | 164 => 110 | 46 => 139 | 119 => 138 | 139 => 142 | 138 => 141 | 146 => 163 | 51 => 145 | 80 => 61 | n => n, fun | 1 => 4 | 3 => 1 | 4 => 2 | n => n⟩
theorem Tryz.lays155 : Go.Proofs.Lays.n155 Tryz.prog Tryz.lays155_ren := {
  mixed := by kernel_rfl
  f138 := Tryz.func103.trans (congrArg some (by kernel_rfl))
  f143 := Tryz.func91.trans (congrArg some (by kernel_rfl))
  f154 := Tryz.func82.trans (congrArg some (by kernel_rfl))
  f155 := Tryz.func57.trans (congrArg some (by kernel_rfl))
  f165 := Tryz.func104.trans (congrArg some (by kernel_rfl))
  f166 := Tryz.func29.trans (congrArg some (by kernel_rfl))
  f169 := Tryz.func21.trans (congrArg some (by kernel_rfl))
  f195 := Tryz.func48.trans (congrArg some (by kernel_rfl))
  f197 := Tryz.func64.trans (congrArg some (by kernel_rfl))
  f217 := Tryz.func126.trans (congrArg some (by kernel_rfl))
  f218 := Tryz.func121.trans (congrArg some (by kernel_rfl))
  f219 := Tryz.func109.trans (congrArg some (by kernel_rfl))
  f224 := Tryz.func128.trans (congrArg some (by kernel_rfl))
  f225 := Tryz.func127.trans (congrArg some (by kernel_rfl))
  f240 := Tryz.func53.trans (congrArg some (by kernel_rfl))
  f241 := Tryz.func122.trans (congrArg some (by kernel_rfl))
  f260 := Tryz.func85.trans (congrArg some (by kernel_rfl))
  f266 := Tryz.func136.trans (congrArg some (by kernel_rfl))
  f267 := Tryz.func129.trans (congrArg some (by kernel_rfl))
  f276 := Tryz.func76.trans (congrArg some (by kernel_rfl))
  f277 := Tryz.func135.trans (congrArg some (by kernel_rfl))
  f314 := Tryz.func137.trans (congrArg some (by kernel_rfl))
  t0 := Tryz.underlying0
  a0 := Tryz.isAgg0
  z0 := Tryz.sizeOf0
  v0 := Tryz.zeroValue0
  t3 := Tryz.underlying3
  a3 := Tryz.isAgg3
  z3 := Tryz.sizeOf3
  v3 := Tryz.zeroValue3
  t4 := Tryz.underlying4
  a4 := Tryz.isAgg4
  z4 := Tryz.sizeOf4
  v4 := Tryz.zeroValue4
  t5 := Tryz.underlying5
  a5 := Tryz.isAgg5
  z5 := Tryz.sizeOf5
  v5 := Tryz.zeroValue5
  t9 := Tryz.underlying9
  a9 := Tryz.isAgg9
  z9 := Tryz.sizeOf9
  v9 := Tryz.zeroValue9
  t20 := Tryz.underlying20
  a20 := Tryz.isAgg20
  z20 := Tryz.sizeOf20
  v20 := Tryz.zeroValue20
  t21 := Tryz.underlying21
  a21 := Tryz.isAgg21
  z21 := Tryz.sizeOf21
  v21 := Tryz.zeroValue21
  t37 := Tryz.underlying57
  a37 := Tryz.isAgg57
  z37 := Tryz.sizeOf57
  v37 := Tryz.zeroValue57
  t46 := Tryz.underlying139
  a46 := Tryz.isAgg139
  z46 := Tryz.sizeOf139
  v46 := Tryz.zeroValue139
  t51 := Tryz.underlying145
  a51 := Tryz.isAgg145
  z51 := Tryz.sizeOf145
  v51 := Tryz.zeroValue145
  t70 := Tryz.underlying56
  a70 := Tryz.isAgg56
  z70 := Tryz.sizeOf56
  v70 := Tryz.zeroValue56
  t72 := Tryz.underlying59
  a72 := Tryz.isAgg59
  z72 := Tryz.sizeOf59
  v72 := Tryz.zeroValue59
  t75 := Tryz.underlying75
  a75 := Tryz.isAgg75
  z75 := Tryz.sizeOf75
  v75 := Tryz.zeroValue75
  t76 := Tryz.underlying76
  a76 := Tryz.isAgg76
  z76 := Tryz.sizeOf76
  v76 := Tryz.zeroValue76
  t105 := Tryz.underlying91
  a105 := Tryz.isAgg91
  z105 := Tryz.sizeOf91
  v105 := Tryz.zeroValue91
  t119 := Tryz.underlying138
  a119 := Tryz.isAgg138
  z119 := Tryz.sizeOf138
  t127 := Tryz.underlying85
  a127 := Tryz.isAgg85
  z127 := Tryz.sizeOf85
  v127 := Tryz.zeroValue85
  t138 := Tryz.underlying141
  a138 := Tryz.isAgg141
  z138 := Tryz.sizeOf141
  v138 := Tryz.zeroValue141
  t139 := Tryz.underlying142
  a139 := Tryz.isAgg142
  z139 := Tryz.sizeOf142
  v139 := Tryz.zeroValue142
  t146 := Tryz.underlying163
  a146 := Tryz.isAgg163
  z146 := Tryz.sizeOf163
  v146 := Tryz.zeroValue163
  t164 := Tryz.underlying110
  a164 := Tryz.isAgg110
  z164 := Tryz.sizeOf110
  v164 := Tryz.zeroValue110
  g1 := by kernel_rfl
  g3 := by kernel_rfl
  g4 := by kernel_rfl }
theorem Tryz.Builder_Extra_155 : Builder.Extra Tryz.prog Tryz.lays155_ren := {
  sizeBuilder := by kernel_rfl
  liesBuilder := by kernel_rfl
  t5 := Tryz.underlying5
  a5 := Tryz.isAgg5
  z5 := Tryz.sizeOf5
  v5 := Tryz.zeroValue5
  infoByte := by kernel_rfl
  cellsByte := by kernel_rfl
  sizeByte := by kernel_rfl
  neB5 := by decide }
open Go.RowKit Go.Lib in
theorem Tryz.strings_ReplaceAll (s old new : ByteArray) (m : Int) (w : World) (hs : s.size < 4294967281) (hm : w.cell? ⟨4, 0, none⟩ = some (.int .i64 m)) (h1 : 1 ≤ old.size) (hlen : s.size + Lib.countB s old * new.size ≤ 140737488355328) :
    Calls Tryz.prog 57 #[.string s, .string old, .string new] w fun e w' =>
      e = .returned (.string ⟨(Lib.replaceAll s.data.toList old.data.toList new.data.toList).toArray⟩) ∧ Below w.heap.size w w' := Any.strings_ReplaceAll Tryz.lays155 Tryz.Builder_Extra_155 s old new m w hs hm h1 hlen
def Tryz.laysM155_ren : Go.Shelf.Ren := ⟨fun | 155 => 57 | 154 => 82 | 138 => 103 | 165 => 104 | 143 => 91 | 166 => 29 | 197 => 64 | 169 => 21 | 195 => 48 | 218 => 121 | 240 => 53 | 241 => 122 | 219 => 109 | 260 => 85 | 276 => 76 | 277 => 135 | 217 => 126 | 225 => 127 | 224 => 128 | 267 => 129 | 266 => 136 | 314 => 137 | n => n, fun | 9 => 9 | 3 => 3 | 4 => 4 | 72 => 59 | 0 => 0 | 76 => 76 | 105 => 91 | 21 => 21 | 5 => 5 | 70 => 56 | 20 => 20 | 37 => 57 | 75 => 75 | 127 => 85 | 164 => 110 | 46 => 139 | 119 => 138 | 139 => 142 | 138 => 141 | 146 => 163 | 51 => 145 | 80 => 61 | n => n, fun | 1 => 4 | 3 => 1 | 4 => 2 | n => n⟩
theorem Tryz.laysM155 : Go.Proofs.LaysM.n155 Tryz.prog Tryz.laysM155_ren := {
  mixed := by kernel_rfl
  f138 := Tryz.func103.trans (congrArg some (by kernel_rfl))
  f143 := Tryz.func91.trans (congrArg some (by kernel_rfl))
  f154 := Tryz.func82.trans (congrArg some (by kernel_rfl))
  f155 := Tryz.func57.trans (congrArg some (by kernel_rfl))
  f165 := Tryz.func104.trans (congrArg some (by kernel_rfl))
  f166 := Tryz.func29.trans (congrArg some (by kernel_rfl))
  f169 := Tryz.func21.trans (congrArg some (by kernel_rfl))
  f195 := Tryz.func48.trans (congrArg some (by kernel_rfl))
  f197 := Tryz.func64.trans (congrArg some (by kernel_rfl))
  f217 := Tryz.func126.trans (congrArg some (by kernel_rfl))
  f218 := Tryz.func121.trans (congrArg some (by kernel_rfl))
  f219 := Tryz.func109.trans (congrArg some (by kernel_rfl))
  f224 := Tryz.func128.trans (congrArg some (by kernel_rfl))
  f225 := Tryz.func127.trans (congrArg some (by kernel_rfl))
  f240 := Tryz.func53.trans (congrArg some (by kernel_rfl))
  f241 := Tryz.func122.trans (congrArg some (by kernel_rfl))
  f260 := Tryz.func85.trans (congrArg some (by kernel_rfl))
  f266 := Tryz.func136.trans (congrArg some (by kernel_rfl))
  f267 := Tryz.func129.trans (congrArg some (by kernel_rfl))
  f276 := Tryz.func76.trans (congrArg some (by kernel_rfl))
  f277 := Tryz.func135.trans (congrArg some (by kernel_rfl))
  f314 := Tryz.func137.trans (congrArg some (by kernel_rfl))
  t0 := Tryz.underlying0
  a0 := Tryz.isAgg0
  z0 := Tryz.sizeOf0
  v0 := Tryz.zeroValue0
  t3 := Tryz.underlying3
  a3 := Tryz.isAgg3
  z3 := Tryz.sizeOf3
  v3 := Tryz.zeroValue3
  t4 := Tryz.underlying4
  a4 := Tryz.isAgg4
  z4 := Tryz.sizeOf4
  v4 := Tryz.zeroValue4
  t5 := Tryz.underlying5
  a5 := Tryz.isAgg5
  z5 := Tryz.sizeOf5
  v5 := Tryz.zeroValue5
  t9 := Tryz.underlying9
  a9 := Tryz.isAgg9
  z9 := Tryz.sizeOf9
  v9 := Tryz.zeroValue9
  t20 := Tryz.underlying20
  a20 := Tryz.isAgg20
  z20 := Tryz.sizeOf20
  v20 := Tryz.zeroValue20
  t21 := Tryz.underlying21
  a21 := Tryz.isAgg21
  z21 := Tryz.sizeOf21
  v21 := Tryz.zeroValue21
  t37 := Tryz.underlying57
  a37 := Tryz.isAgg57
  z37 := Tryz.sizeOf57
  v37 := Tryz.zeroValue57
  t46 := Tryz.underlying139
  a46 := Tryz.isAgg139
  z46 := Tryz.sizeOf139
  v46 := Tryz.zeroValue139
  t51 := Tryz.underlying145
  a51 := Tryz.isAgg145
  z51 := Tryz.sizeOf145
  v51 := Tryz.zeroValue145
  t70 := Tryz.underlying56
  a70 := Tryz.isAgg56
  z70 := Tryz.sizeOf56
  v70 := Tryz.zeroValue56
  t72 := Tryz.underlying59
  a72 := Tryz.isAgg59
  z72 := Tryz.sizeOf59
  v72 := Tryz.zeroValue59
  t75 := Tryz.underlying75
  a75 := Tryz.isAgg75
  z75 := Tryz.sizeOf75
  v75 := Tryz.zeroValue75
  t76 := Tryz.underlying76
  a76 := Tryz.isAgg76
  z76 := Tryz.sizeOf76
  v76 := Tryz.zeroValue76
  t105 := Tryz.underlying91
  a105 := Tryz.isAgg91
  z105 := Tryz.sizeOf91
  v105 := Tryz.zeroValue91
  t119 := Tryz.underlying138
  a119 := Tryz.isAgg138
  z119 := Tryz.sizeOf138
  t127 := Tryz.underlying85
  a127 := Tryz.isAgg85
  z127 := Tryz.sizeOf85
  v127 := Tryz.zeroValue85
  t138 := Tryz.underlying141
  a138 := Tryz.isAgg141
  z138 := Tryz.sizeOf141
  v138 := Tryz.zeroValue141
  t139 := Tryz.underlying142
  a139 := Tryz.isAgg142
  z139 := Tryz.sizeOf142
  v139 := Tryz.zeroValue142
  t146 := Tryz.underlying163
  a146 := Tryz.isAgg163
  z146 := Tryz.sizeOf163
  v146 := Tryz.zeroValue163
  t164 := Tryz.underlying110
  a164 := Tryz.isAgg110
  z164 := Tryz.sizeOf110
  v164 := Tryz.zeroValue110
  g1 := by kernel_rfl
  g3 := by kernel_rfl
  g4 := by kernel_rfl
  t80 := Tryz.underlying61
  a80 := Tryz.isAgg61
  z80 := Tryz.sizeOf61
  v80 := Tryz.zeroValue61
  i0 := by kernel_rfl
  i3 := by kernel_rfl
  i4 := by kernel_rfl
  i5 := by kernel_rfl
  i9 := by kernel_rfl
  i20 := by kernel_rfl
  i21 := by kernel_rfl
  i37 := by kernel_rfl
  i46 := by kernel_rfl
  i51 := by kernel_rfl
  i70 := by kernel_rfl
  i72 := by kernel_rfl
  i75 := by kernel_rfl
  i76 := by kernel_rfl
  i80 := by kernel_rfl
  i105 := by kernel_rfl
  i127 := by kernel_rfl
  i138 := by kernel_rfl
  i139 := by kernel_rfl
  i146 := by kernel_rfl
  i164 := by kernel_rfl
  m1 := by kernel_rfl
  s1_3 := fun w h => Go.Proofs.cell_of_shapedOpen_int (zero := #[.int .i64 0]) (t := 3) h (of_decide_eq_true (by kernel_rfl)) (by kernel_rfl) rfl (by kernel_rfl) (by kernel_rfl) Tryz.underlying3
  m3 := by kernel_rfl
  m4 := by kernel_rfl }
def Tryz.lays260_ren : Go.Shelf.Ren := ⟨fun | 260 => 85 | n => n, fun | 9 => 9 | 21 => 21 | 3 => 3 | 4 => 4 | 5 => 5 | 119 => 138 | 0 => 0 | 46 => 139 | 139 => 142 | 138 => 141 | n => n, fun | 3 => 1 | 4 => 2 | n => n⟩
theorem Tryz.lays260 : Go.Proofs.Lays.n260 Tryz.prog Tryz.lays260_ren := {
  mixed := by kernel_rfl
  f260 := Tryz.func85.trans (congrArg some (by kernel_rfl))
  t0 := Tryz.underlying0
  a0 := Tryz.isAgg0
  z0 := Tryz.sizeOf0
  v0 := Tryz.zeroValue0
  t3 := Tryz.underlying3
  a3 := Tryz.isAgg3
  z3 := Tryz.sizeOf3
  v3 := Tryz.zeroValue3
  t4 := Tryz.underlying4
  a4 := Tryz.isAgg4
  z4 := Tryz.sizeOf4
  v4 := Tryz.zeroValue4
  t5 := Tryz.underlying5
  a5 := Tryz.isAgg5
  z5 := Tryz.sizeOf5
  v5 := Tryz.zeroValue5
  t9 := Tryz.underlying9
  a9 := Tryz.isAgg9
  z9 := Tryz.sizeOf9
  v9 := Tryz.zeroValue9
  t21 := Tryz.underlying21
  a21 := Tryz.isAgg21
  z21 := Tryz.sizeOf21
  v21 := Tryz.zeroValue21
  t46 := Tryz.underlying139
  a46 := Tryz.isAgg139
  z46 := Tryz.sizeOf139
  v46 := Tryz.zeroValue139
  t119 := Tryz.underlying138
  a119 := Tryz.isAgg138
  z119 := Tryz.sizeOf138
  t138 := Tryz.underlying141
  a138 := Tryz.isAgg141
  z138 := Tryz.sizeOf141
  v138 := Tryz.zeroValue141
  t139 := Tryz.underlying142
  a139 := Tryz.isAgg142
  z139 := Tryz.sizeOf142
  v139 := Tryz.zeroValue142
  g3 := by kernel_rfl
  g4 := by kernel_rfl }
def Tryz.lays197_ren : Go.Shelf.Ren := ⟨fun | 197 => 64 | 260 => 85 | n => n, fun | 9 => 9 | 21 => 21 | 3 => 3 | 4 => 4 | 5 => 5 | 105 => 91 | 119 => 138 | 0 => 0 | 46 => 139 | 139 => 142 | 138 => 141 | n => n, fun | 3 => 1 | 4 => 2 | n => n⟩
theorem Tryz.lays197 : Go.Proofs.Lays.n197 Tryz.prog Tryz.lays197_ren := {
  mixed := by kernel_rfl
  f197 := Tryz.func64.trans (congrArg some (by kernel_rfl))
  f260 := Tryz.func85.trans (congrArg some (by kernel_rfl))
  t0 := Tryz.underlying0
  a0 := Tryz.isAgg0
  z0 := Tryz.sizeOf0
  v0 := Tryz.zeroValue0
  t3 := Tryz.underlying3
  a3 := Tryz.isAgg3
  z3 := Tryz.sizeOf3
  v3 := Tryz.zeroValue3
  t4 := Tryz.underlying4
  a4 := Tryz.isAgg4
  z4 := Tryz.sizeOf4
  v4 := Tryz.zeroValue4
  t5 := Tryz.underlying5
  a5 := Tryz.isAgg5
  z5 := Tryz.sizeOf5
  v5 := Tryz.zeroValue5
  t9 := Tryz.underlying9
  a9 := Tryz.isAgg9
  z9 := Tryz.sizeOf9
  v9 := Tryz.zeroValue9
  t21 := Tryz.underlying21
  a21 := Tryz.isAgg21
  z21 := Tryz.sizeOf21
  v21 := Tryz.zeroValue21
  t46 := Tryz.underlying139
  a46 := Tryz.isAgg139
  z46 := Tryz.sizeOf139
  v46 := Tryz.zeroValue139
  t105 := Tryz.underlying91
  a105 := Tryz.isAgg91
  z105 := Tryz.sizeOf91
  v105 := Tryz.zeroValue91
  t119 := Tryz.underlying138
  a119 := Tryz.isAgg138
  z119 := Tryz.sizeOf138
  t138 := Tryz.underlying141
  a138 := Tryz.isAgg141
  z138 := Tryz.sizeOf141
  v138 := Tryz.zeroValue141
  t139 := Tryz.underlying142
  a139 := Tryz.isAgg142
  z139 := Tryz.sizeOf142
  v139 := Tryz.zeroValue142
  g3 := by kernel_rfl
  g4 := by kernel_rfl }
open Go.RowKit Go.Lib in
theorem Tryz.utf8_DecodeRuneInString (s : ByteArray) (w : World) (hT : Lib.Utf8Tabs 1 2 w) :
    Calls Tryz.prog 64 #[.string s] w fun e w' => e = .returned (.tuple #[.int .i32 (Lib.decodeGo s).1, .int .i64 (Lib.decodeGo s).2]) ∧ Below w.heap.size w w' := Any.utf8_DecodeRuneInString Tryz.lays197 s w hT
end Go.Proofs
namespace Go.A
open Go.Proofs
section
variable {P : Program} {σ : ASt} {w : World}
theorem reps_ints {k : IntKind} : ∀ {zs : List Int} {vs : List Value}, Reps σ w (zs.map (AV.int k)) vs → vs = zs.map (Value.int k)
  | [], vs, h => by cases h; rfl
  | z :: zs, vs, h => by
    cases h with
    | cons h1 h2 =>
      cases h1
      rw [reps_ints h2]
      rfl
theorem tabIs_of (hs : Sim σ w) {name : String} {b : Nat} {k : IntKind} {zs : List Int} (hg : P.globalNamed name = some b) (hb : σ b = some (.fix (zs.map (AV.int k)))) : Lib.TabIs P w name k zs := by
  obtain ⟨h1, c, T, fr, h2, h3⟩ := hs b _ hb
  obtain ⟨vs, h4, h5⟩ := h1.vals
  have h6 := reps_ints h4
  subst h6
  unfold Lib.TabIs World.var?
  rw [hg, Option.bind_some]
  simp only [h2]
  congr 1
  apply Array.ext
  · simp [h3]
  · intro j hj hj'
    have h7 := h5 j (Value.int k (zs[j]'(by simpa using hj'))) (by simp)
    simp only [World.cell?, h2, Nat.zero_add] at h7
    simp at h7 ⊢
    obtain ⟨_, h7⟩ := Array.getElem?_eq_some_iff.1 h7
    exact h7
theorem ACalls.of_ext {f : FuncId} {args : List AV} {r : AV} {u : Value} (h : ∀ w vs, Sim σ w → Reps σ w args vs → Calls P f ⟨vs⟩ w fun e w' => e = .returned u ∧ Ext w w') (hr : ∀ w, Rep σ w r u) : ACalls P f args σ fun v σ' => v = r ∧ σ' = σ :=
  fun w vs hs ha => (h w vs hs ha).mono fun e w' ⟨he, hx⟩ => ⟨u, r, σ, he, ⟨rfl, rfl⟩, ext_le hx, hs.ext hx, hr w'⟩
theorem ext_grow (w : World) (k : Nat) (os : Array Obj) : Ext w (Go.Sort.grow (w.drewN k) os) := ⟨⟨os, w.drawn + k⟩, rfl⟩
end
theorem Ext.of_eq {w w' : World} (h : w' = w) : Ext w w' := h ▸ Ext.refl w
def Tab (σ : ASt) : Prop := σ 3 = some (.fix (Lib.pow10Tab.map (AV.int .u64)))
theorem Tab.set {σ : ASt} {b : Nat} {r : Option Role} (h : Tab σ) (hb : σ b = none) : Tab (σ.set b r) := by
  unfold Tab at *
  rw [ASt.set_ne]
  · exact h
  · intro e; rw [← e, h] at hb; cases hb
end Go.A
namespace Go.A
open Go.Proofs
theorem itoa_ok {σ : ASt} (h : Tab σ) {n : Int} (h0 : -9223372036854775808 ≤ n) (h1 : n ≤ 9223372036854775807) : ACalls Tryz.prog 62 [.int .i64 n] σ fun v σ' => v = .str (Lib.itoa n) ∧ σ' = σ := by
  refine ACalls.of_ext (u := .string ⟨(Lib.itoa n).toArray⟩) (fun w vs hs ha => ?_) fun w => .str _
  cases ha with
  | cons h2 h3 =>
    cases h2; cases h3
    refine (Tryz.strconv_Itoa n h0 h1 w (tabIs_of hs (by kernel_rfl) h)).mono ?_
    rintro e w' ⟨he, k, os, rfl⟩
    exact ⟨he, ext_grow w k os⟩
end Go.A
namespace Go.A
open Go.Proofs
/-! 123: tabular/addr.letter -/
def c123_0 : ACode := .ops [
 ⟨some 2, none, .q (.mv (.v (.int .i64 0))), []⟩]
def c123_1 : ACode := .ops [
 ⟨some 4, none, .q (.mv (.t 0)), []⟩,
 ⟨some 5, none, .q (.bin .geq (.t 4) (.v (.int .u8 65))), []⟩,
 ⟨some 6, none, .q (.mv (.t 5)), []⟩,
 ⟨some 7, some (6, true), .q (.mv (.t 0)), []⟩,
 ⟨some 8, some (6, true), .q (.bin .leq (.t 7) (.v (.int .u8 90))), []⟩,
 ⟨some 9, none, .q (.pick (.t 6) (.t 8) (.v (.bool false))), []⟩,
 ⟨some 3, none, .q (.mv (.t 9)), []⟩]
def c123_2 : ACode := .ops [
 ⟨some 10, none, .q (.mv (.t 0)), []⟩,
 ⟨some 11, none, .q (.bin .sub (.t 10) (.v (.int .u8 65))), []⟩,
 ⟨some 12, none, .q (.conv .i64 (.t 11)), []⟩,
 ⟨some 13, none, .q (.bin .add (.t 12) (.v (.int .i64 1))), []⟩,
 ⟨some 2, none, .q (.mv (.t 13)), []⟩]
def c123_3 : ACode := .seq c123_2 .ret
def c123_4 : ACode := .ops [
 ⟨some 15, none, .q (.mv (.t 0)), []⟩,
 ⟨some 16, none, .q (.bin .geq (.t 15) (.v (.int .u8 97))), []⟩,
 ⟨some 17, none, .q (.mv (.t 16)), []⟩,
 ⟨some 18, some (17, true), .q (.mv (.t 0)), []⟩,
 ⟨some 19, some (17, true), .q (.bin .leq (.t 18) (.v (.int .u8 122))), []⟩,
 ⟨some 20, none, .q (.pick (.t 17) (.t 19) (.v (.bool false))), []⟩,
 ⟨some 14, none, .q (.mv (.t 20)), []⟩]
def c123_5 : ACode := .ops [
 ⟨some 21, none, .q (.mv (.t 0)), []⟩,
 ⟨some 22, none, .q (.bin .sub (.t 21) (.v (.int .u8 97))), []⟩,
 ⟨some 23, none, .q (.conv .i64 (.t 22)), []⟩,
 ⟨some 24, none, .q (.bin .add (.t 23) (.v (.int .i64 1))), []⟩,
 ⟨some 2, none, .q (.mv (.t 24)), []⟩]
def c123_6 : ACode := .seq c123_5 .ret
def c123_7 : ACode := .cond (.t 14) c123_6 .skip
def c123_8 : ACode := .seq c123_4 c123_7
def c123_9 : ACode := .cond (.t 3) c123_3 c123_8
def c123_10 : ACode := .seq c123_1 c123_9
def c123_11 : ACode := .block 0 c123_10
def c123_12 : ACode := .ops [
 ⟨some 2, none, .q (.mv (.v (.int .i64 0))), []⟩]
def c123_13 : ACode := .seq c123_12 .ret
def c123_14 : ACode := .seq c123_11 c123_13
def c123_15 : ACode := .seq c123_0 c123_14
@[go_sem] def c123_0_wp := wp_of c123_0.eq_1
@[go_sem] def c123_1_wp := wp_of c123_1.eq_1
@[go_sem] def c123_2_wp := wp_of c123_2.eq_1
@[go_sem] def c123_3_wp := wp_of c123_3.eq_1
@[go_sem] def c123_4_wp := wp_of c123_4.eq_1
@[go_sem] def c123_5_wp := wp_of c123_5.eq_1
@[go_sem] def c123_6_wp := wp_of c123_6.eq_1
@[go_sem] def c123_7_wp := wp_of c123_7.eq_1
@[go_sem] def c123_8_wp := wp_of c123_8.eq_1
@[go_sem] def c123_9_wp := wp_of c123_9.eq_1
@[go_sem] def c123_10_wp := wp_of c123_10.eq_1
@[go_sem] def c123_11_wp := wp_of c123_11.eq_1
@[go_sem] def c123_12_wp := wp_of c123_12.eq_1
@[go_sem] def c123_13_wp := wp_of c123_13.eq_1
@[go_sem] def c123_14_wp := wp_of c123_14.eq_1
@[go_sem] def c123_15_wp := wp_of c123_15.eq_1
def c123 : AFn := ⟨25, [.t 2], c123_15⟩
theorem c123_ok : compF Tryz.prog Tryz.f123 = some c123 := by kernel_rfl
theorem a123 {args : List AV} {σ : ASt} {R : AV → ASt → Prop} (hl : args.length ≤ 25) (h : c123_15.wp Tryz.prog (RetQ [.t 2] R) (init args) σ) : ACalls Tryz.prog 123 args σ R := acalls_of Tryz.func123 c123_ok hl h
end Go.A
namespace Go.A
open Go.Proofs
def letterP (c : Int) : Int := if 65 ≤ c ∧ c ≤ 90 then c - 64 else if 97 ≤ c ∧ c ≤ 122 then c - 96 else 0
theorem letter_ok (c : Int) (h0 : 0 ≤ c) (h1 : c ≤ 255) : Pure Tryz.prog 123 [.int .u8 c] (.int .i64 (letterP c)) := by
  intro σ
  refine a123 (by simp) ?_
  repeat' (first | (simp (disch := first | assumption | omega) only [go_sem, reduceCtorEq, Nat.reduceEqDiff, ↓reduceIte]) | with_reducible refine gC_d (fun h => ?_) (fun h => ?_) | with_reducible refine gC_dn (fun h => ?_) (fun h => ?_) | with_reducible refine condC_d (fun h => ?_) (fun h => ?_) | with_reducible refine condC_n (fun h => ?_) (fun h => ?_) | with_reducible refine condC_b (fun h => ?_) (fun h => ?_) | with_reducible refine boxC_by ?_ fun b hb => ?_)
  all_goals refine retC_by (Drop.refl _) (.refl _) ⟨?_, rfl⟩
  all_goals (simp only [letterP, resV_one]; congr 1; repeat' split) <;> omega
structure Ref where
  row : Int
  col : Int
  absRow : Bool
  absCol : Bool
  deriving DecidableEq, Inhabited
def refAV (r : Ref) : AV := .agg [.int .i64 r.row, .int .i64 r.col, .bool r.absRow, .bool r.absCol]
def Ref.good (r : Ref) : Bool := decide (0 ≤ r.row ∧ r.row < 3000 ∧ 0 ≤ r.col ∧ r.col < 700)
def Ref.zero : Ref := ⟨0, 0, false, false⟩
end Go.A
namespace Go.A
open Go.Proofs
/-! 61: tabular/addr.Letters -/
def c61_0 : ACode := .ops [
 ⟨some 2, none, .q (.mv (.v (.str []))), []⟩]
def c61_1 : ACode := .ops [
 ⟨some 4, none, .q (.mv (.t 0)), []⟩,
 ⟨some 5, none, .q (.bin .lss (.t 4) (.v (.int .i64 0))), []⟩,
 ⟨some 6, none, .q (.mv (.t 5)), []⟩,
 ⟨some 7, some (6, false), .q (.mv (.t 0)), []⟩,
 ⟨some 8, some (6, false), .q (.bin .geq (.t 7) (.v (.int .i64 700))), []⟩,
 ⟨some 9, none, .q (.pick (.t 6) (.v (.bool true)) (.t 8)), []⟩]
def c61_2 : ACode := .ops [
 ⟨some 2, none, .q (.mv (.v (.str []))), []⟩]
def c61_3 : ACode := .seq c61_2 .ret
def c61_4 : ACode := .cond (.t 9) c61_3 .skip
def c61_5 : ACode := .seq c61_1 c61_4
def c61_6 : ACode := .ops [
 ⟨some 3, none, .q (.mv (.v (.str []))), []⟩]
def c61_7 : ACode := .ops [
 ⟨some 10, none, .q (.mv (.t 0)), []⟩,
 ⟨some 11, none, .q (.bin .add (.t 10) (.v (.int .i64 1))), []⟩,
 ⟨some 0, none, .q (.mv (.t 11)), []⟩]
def c61_8 : ACode := .ops [
 ⟨some 12, none, .q (.mv (.t 0)), []⟩,
 ⟨some 13, none, .q (.bin .gtr (.t 12) (.v (.int .i64 0))), []⟩]
def c61_9 : ACode := .cond (.t 13) .skip (.exit 0)
def c61_10 : ACode := .seq c61_8 c61_9
def c61_11 : ACode := .ops [
 ⟨some 17, none, .q (.mv (.t 0)), []⟩,
 ⟨some 18, none, .q (.bin .sub (.t 17) (.v (.int .i64 1))), []⟩,
 ⟨some 19, none, .q (.bin .rem (.t 18) (.v (.int .i64 26))), []⟩,
 ⟨some 20, none, .q (.bin .add (.v (.int .i64 65)) (.t 19)), []⟩,
 ⟨some 21, none, .q (.conv .u8 (.t 20)), []⟩,
 ⟨some 22, none, .q (.bsl 1 [(.t 21)]), []⟩,
 ⟨some 23, none, .q (.b2s (.t 22)), []⟩,
 ⟨some 24, none, .q (.mv (.t 3)), []⟩,
 ⟨some 25, none, .q (.bin .add (.t 23) (.t 24)), []⟩,
 ⟨some 3, none, .q (.mv (.t 25)), []⟩]
def c61_12 : ACode := .block 1 c61_11
def c61_13 : ACode := .ops [
 ⟨some 14, none, .q (.mv (.t 0)), []⟩,
 ⟨some 15, none, .q (.bin .sub (.t 14) (.v (.int .i64 1))), []⟩,
 ⟨some 16, none, .q (.bin .quo (.t 15) (.v (.int .i64 26))), []⟩,
 ⟨some 0, none, .q (.mv (.t 16)), []⟩]
def c61_14 : ACode := .seq c61_12 c61_13
def c61_15 : ACode := .seq c61_10 c61_14
def c61_16 : ACode := .loop c61_15
def c61_17 : ACode := .block 0 c61_16
def c61_18 : ACode := .seq c61_7 c61_17
def c61_19 : ACode := .ops [
 ⟨some 26, none, .q (.mv (.t 3)), []⟩,
 ⟨some 2, none, .q (.mv (.t 26)), []⟩]
def c61_20 : ACode := .seq c61_19 .ret
def c61_21 : ACode := .seq c61_18 c61_20
def c61_22 : ACode := .seq c61_6 c61_21
def c61_23 : ACode := .seq c61_5 c61_22
def c61_24 : ACode := .seq c61_0 c61_23
@[go_sem] def c61_0_wp := wp_of c61_0.eq_1
@[go_sem] def c61_1_wp := wp_of c61_1.eq_1
@[go_sem] def c61_2_wp := wp_of c61_2.eq_1
@[go_sem] def c61_3_wp := wp_of c61_3.eq_1
@[go_sem] def c61_4_wp := wp_of c61_4.eq_1
@[go_sem] def c61_5_wp := wp_of c61_5.eq_1
@[go_sem] def c61_6_wp := wp_of c61_6.eq_1
@[go_sem] def c61_7_wp := wp_of c61_7.eq_1
@[go_sem] def c61_8_wp := wp_of c61_8.eq_1
@[go_sem] def c61_9_wp := wp_of c61_9.eq_1
@[go_sem] def c61_10_wp := wp_of c61_10.eq_1
@[go_sem] def c61_11_wp := wp_of c61_11.eq_1
@[go_sem] def c61_12_wp := wp_of c61_12.eq_1
@[go_sem] def c61_13_wp := wp_of c61_13.eq_1
@[go_sem] def c61_14_wp := wp_of c61_14.eq_1
@[go_sem] def c61_15_wp := wp_of c61_15.eq_1
@[go_sem] def c61_16_wp := wp_of c61_16.eq_1
@[go_sem] def c61_17_wp := wp_of c61_17.eq_1
@[go_sem] def c61_18_wp := wp_of c61_18.eq_1
@[go_sem] def c61_19_wp := wp_of c61_19.eq_1
@[go_sem] def c61_20_wp := wp_of c61_20.eq_1
@[go_sem] def c61_21_wp := wp_of c61_21.eq_1
@[go_sem] def c61_22_wp := wp_of c61_22.eq_1
@[go_sem] def c61_23_wp := wp_of c61_23.eq_1
@[go_sem] def c61_24_wp := wp_of c61_24.eq_1
def c61 : AFn := ⟨27, [.t 2], c61_24⟩
theorem c61_ok : compF Tryz.prog Tryz.f61 = some c61 := by kernel_rfl
theorem a61 {args : List AV} {σ : ASt} {R : AV → ASt → Prop} (hl : args.length ≤ 27) (h : c61_24.wp Tryz.prog (RetQ [.t 2] R) (init args) σ) : ACalls Tryz.prog 61 args σ R := acalls_of Tryz.func61 c61_ok hl h
/-! 124: tabular/addr.Column -/
def c124_0 : ACode := .ops [
 ⟨some 2, none, .q (.mv (.v (.int .i64 0))), []⟩,
 ⟨some 3, none, .q (.mv (.v (.bool false))), []⟩]
def c124_1 : ACode := .ops [
 ⟨some 4, none, .q (.mv (.v (.int .i64 0))), []⟩]
def c124_2 : ACode := .ops [
 ⟨some 7, none, .q (.mv (.t 0)), []⟩,
 ⟨some 8, none, .e (.s2b (.t 7)), []⟩,
 ⟨some 9, none, .q (.len (.t 8)), []⟩,
 ⟨some 10, none, .q (.mv (.v (.int .i64 0))), []⟩]
def c124_3 : ACode := .ops [
 ⟨some 11, none, .q (.bin .lss (.t 10) (.t 9)), []⟩]
def c124_4 : ACode := .cond (.t 11) .skip (.exit 0)
def c124_5 : ACode := .ops [
 ⟨some 12, none, .q (.ia 1 (.t 8) (.t 10)), []⟩,
 ⟨some 13, none, .q (.ld none (.t 12)), []⟩,
 ⟨some 6, none, .q (.mv (.t 13)), []⟩]
def c124_6 : ACode := .ops [
 ⟨some 14, none, .q (.mv (.t 6)), []⟩,
 ⟨some 15, none, .e (.call 123 [(.t 14)]), []⟩,
 ⟨some 16, none, .q (.bin .eql (.t 15) (.v (.int .i64 0))), []⟩,
 ⟨some 17, none, .q (.mv (.t 16)), []⟩,
 ⟨some 18, some (17, false), .q (.mv (.t 4)), []⟩,
 ⟨some 19, some (17, false), .q (.bin .gtr (.t 18) (.v (.int .i64 700))), []⟩,
 ⟨some 20, none, .q (.pick (.t 17) (.v (.bool true)) (.t 19)), []⟩]
def c124_7 : ACode := .ops [
 ⟨some 2, none, .q (.mv (.v (.int .i64 0))), []⟩,
 ⟨some 3, none, .q (.mv (.v (.bool false))), []⟩]
def c124_8 : ACode := .seq c124_7 .ret
def c124_9 : ACode := .cond (.t 20) c124_8 .skip
def c124_10 : ACode := .seq c124_6 c124_9
def c124_11 : ACode := .ops [
 ⟨some 21, none, .q (.mv (.t 4)), []⟩,
 ⟨some 22, none, .q (.bin .mul (.v (.int .i64 26)) (.t 21)), []⟩,
 ⟨some 23, none, .q (.mv (.t 6)), []⟩,
 ⟨some 24, none, .e (.call 123 [(.t 23)]), []⟩,
 ⟨some 25, none, .q (.bin .add (.t 22) (.t 24)), []⟩,
 ⟨some 4, none, .q (.mv (.t 25)), []⟩]
def c124_12 : ACode := .seq c124_10 c124_11
def c124_13 : ACode := .seq c124_5 c124_12
def c124_14 : ACode := .block 1 c124_13
def c124_15 : ACode := .ops [
 ⟨some 26, none, .q (.bin .add (.t 10) (.v (.int .i64 1))), []⟩,
 ⟨some 10, none, .q (.mv (.t 26)), []⟩]
def c124_16 : ACode := .seq c124_14 c124_15
def c124_17 : ACode := .seq c124_4 c124_16
def c124_18 : ACode := .seq c124_3 c124_17
def c124_19 : ACode := .loop c124_18
def c124_20 : ACode := .block 0 c124_19
def c124_21 : ACode := .seq c124_2 c124_20
def c124_22 : ACode := .ops [
 ⟨some 27, none, .q (.mv (.t 4)), []⟩,
 ⟨some 28, none, .q (.bin .lss (.t 27) (.v (.int .i64 1))), []⟩,
 ⟨some 29, none, .q (.mv (.t 28)), []⟩,
 ⟨some 30, some (29, false), .q (.mv (.t 4)), []⟩,
 ⟨some 31, some (29, false), .q (.bin .gtr (.t 30) (.v (.int .i64 700))), []⟩,
 ⟨some 32, none, .q (.pick (.t 29) (.v (.bool true)) (.t 31)), []⟩]
def c124_23 : ACode := .ops [
 ⟨some 2, none, .q (.mv (.v (.int .i64 0))), []⟩,
 ⟨some 3, none, .q (.mv (.v (.bool false))), []⟩]
def c124_24 : ACode := .seq c124_23 .ret
def c124_25 : ACode := .cond (.t 32) c124_24 .skip
def c124_26 : ACode := .seq c124_22 c124_25
def c124_27 : ACode := .ops [
 ⟨some 33, none, .q (.mv (.t 4)), []⟩,
 ⟨some 34, none, .q (.bin .sub (.t 33) (.v (.int .i64 1))), []⟩,
 ⟨some 2, none, .q (.mv (.t 34)), []⟩,
 ⟨some 3, none, .q (.mv (.v (.bool true))), []⟩]
def c124_28 : ACode := .seq c124_27 .ret
def c124_29 : ACode := .seq c124_26 c124_28
def c124_30 : ACode := .seq c124_21 c124_29
def c124_31 : ACode := .seq c124_1 c124_30
def c124_32 : ACode := .seq c124_0 c124_31
@[go_sem] def c124_0_wp := wp_of c124_0.eq_1
@[go_sem] def c124_1_wp := wp_of c124_1.eq_1
@[go_sem] def c124_2_wp := wp_of c124_2.eq_1
@[go_sem] def c124_3_wp := wp_of c124_3.eq_1
@[go_sem] def c124_4_wp := wp_of c124_4.eq_1
@[go_sem] def c124_5_wp := wp_of c124_5.eq_1
@[go_sem] def c124_6_wp := wp_of c124_6.eq_1
@[go_sem] def c124_7_wp := wp_of c124_7.eq_1
@[go_sem] def c124_8_wp := wp_of c124_8.eq_1
@[go_sem] def c124_9_wp := wp_of c124_9.eq_1
@[go_sem] def c124_10_wp := wp_of c124_10.eq_1
@[go_sem] def c124_11_wp := wp_of c124_11.eq_1
@[go_sem] def c124_12_wp := wp_of c124_12.eq_1
@[go_sem] def c124_13_wp := wp_of c124_13.eq_1
@[go_sem] def c124_14_wp := wp_of c124_14.eq_1
@[go_sem] def c124_15_wp := wp_of c124_15.eq_1
@[go_sem] def c124_16_wp := wp_of c124_16.eq_1
@[go_sem] def c124_17_wp := wp_of c124_17.eq_1
@[go_sem] def c124_18_wp := wp_of c124_18.eq_1
@[go_sem] def c124_19_wp := wp_of c124_19.eq_1
@[go_sem] def c124_20_wp := wp_of c124_20.eq_1
@[go_sem] def c124_21_wp := wp_of c124_21.eq_1
@[go_sem] def c124_22_wp := wp_of c124_22.eq_1
@[go_sem] def c124_23_wp := wp_of c124_23.eq_1
@[go_sem] def c124_24_wp := wp_of c124_24.eq_1
@[go_sem] def c124_25_wp := wp_of c124_25.eq_1
@[go_sem] def c124_26_wp := wp_of c124_26.eq_1
@[go_sem] def c124_27_wp := wp_of c124_27.eq_1
@[go_sem] def c124_28_wp := wp_of c124_28.eq_1
@[go_sem] def c124_29_wp := wp_of c124_29.eq_1
@[go_sem] def c124_30_wp := wp_of c124_30.eq_1
@[go_sem] def c124_31_wp := wp_of c124_31.eq_1
@[go_sem] def c124_32_wp := wp_of c124_32.eq_1
def c124 : AFn := ⟨35, [.t 2, .t 3], c124_32⟩
theorem c124_ok : compF Tryz.prog Tryz.f124 = some c124 := by kernel_rfl
theorem a124 {args : List AV} {σ : ASt} {R : AV → ASt → Prop} (hl : args.length ≤ 35) (h : c124_32.wp Tryz.prog (RetQ [.t 2, .t 3] R) (init args) σ) : ACalls Tryz.prog 124 args σ R := acalls_of Tryz.func124 c124_ok hl h
end Go.A
namespace Go.A
open Go.Proofs
def lettersF : Nat → Nat → List UInt8
  | 0, _ => []
  | k + 1, n => if n = 0 then [] else lettersF k ((n - 1) / 26) ++ [UInt8.ofNat (65 + (n - 1) % 26)]
def lettersP (col : Int) : List UInt8 := if col < 0 ∨ 700 ≤ col then [] else lettersF 4 (col + 1).toNat
theorem letters_ok (col : Int) : Pure Tryz.prog 61 [.int .i64 col] (.str (lettersP col)) := by
  intro σ
  obtain ⟨q, hq⟩ : ∃ q, lettersP col = q := ⟨_, rfl⟩
  rw [hq]
  unfold lettersP at hq
  refine a61 (by simp) ?_
  by_cases hc : col < 0 ∨ 700 ≤ col
  · rw [if_pos hc] at hq
    subst hq
    repeat' (first | (simp (disch := first | assumption | omega) only [go_sem, reduceCtorEq, Nat.reduceEqDiff, ↓reduceIte]) | with_reducible refine gC_d (fun h => ?_) (fun h => ?_) | with_reducible refine gC_dn (fun h => ?_) (fun h => ?_) | with_reducible refine condC_d (fun h => ?_) (fun h => ?_) | with_reducible refine condC_n (fun h => ?_) (fun h => ?_) | with_reducible refine condC_b (fun h => ?_) (fun h => ?_) | with_reducible refine boxC_by ?_ fun b hb => ?_)
    all_goals first | (exfalso; omega) | exact retC_by (Drop.refl _) (.refl _) ⟨rfl, rfl⟩
  · rw [if_neg hc] at hq
    obtain ⟨N, hN⟩ : ∃ N, (col + 1).toNat = N := ⟨_, rfl⟩
    rw [hN] at hq
    have h0 : ¬ col < 0 := by omega
    have h1 : ¬ 700 ≤ col := by omega
    have hc1 : col + 1 = (N : Int) := by omega
    simp (disch := first | assumption | omega) only [go_sem, reduceCtorEq, Nat.reduceEqDiff, ↓reduceIte, h0, h1, hc1]
    refine wp_loop_by (fun (i : Nat × Nat × List UInt8) a σ' => i.2.1 < 26 ^ i.1 ∧ i.1 ≤ 4 ∧ i.2.2.length + i.1 = 4 ∧ q = lettersF i.1 i.2.1 ++ i.2.2 ∧ a 0 = .int .i64 i.2.1 ∧ a 3 = .str i.2.2 ∧ σ' = σ) (fun i => i.1) (4, N, []) (Dr.now ⟨by dsimp only; omega, by simp, by simp, by simp [hq], ?_, ?_, rfl⟩) ?_
    · simp (disch := first | assumption | omega) only [go_sem, ↓reduceIte]
    · simp (disch := first | assumption | omega) only [go_sem, reduceCtorEq, Nat.reduceEqDiff, ↓reduceIte]
    rintro ⟨k, n, s⟩ a σ1 ⟨hn, hk, hs, hqe, h0, h3, rfl⟩
    dsimp only at hn hk hs hqe h0 h3
    by_cases hz : n = 0
    · subst hz
      simp (disch := first | assumption | omega) only [go_sem, Nat.reduceEqDiff, Int.reduceLT, ↓reduceIte, h0, h3]
      refine retC_by (Drop.refl _) (.refl _) ⟨?_, rfl⟩
      have e : lettersF k 0 = [] := by cases k <;> rfl
      rw [hqe, e]; rfl
    · obtain ⟨m, rfl⟩ : ∃ m, n = m + 1 := ⟨n - 1, by omega⟩
      have hb : (m : Int) < 456976 := by
        have := Nat.pow_le_pow_right (n := 26) (by omega) hk
        omega
      have hp : 0 < (m : Int) + 1 := by omega
      have e1 : (m : Int) + 1 - 1 = m := by omega
      have e2 : (m : Int).tmod 26 = ((m % 26 : Nat) : Int) := rfl
      have e3 : (m : Int).tdiv 26 = ((m / 26 : Nat) : Int) := rfl
      have e4 : (65 + ((m % 26 : Nat) : Int)).toNat = 65 + m % 26 := by omega
      have hk0 : k ≠ 0 := by rintro rfl; simp at hn
      obtain ⟨k, rfl⟩ : ∃ k', k = k' + 1 := ⟨k - 1, by omega⟩
      have hs1 : 1 + s.length ≤ 9223372036854775807 := by omega
      simp (disch := first | assumption | omega) only [go_sem, reduceCtorEq, Nat.reduceEqDiff, ↓reduceIte, Bool.true_and, h0, h3, hp, e1, e2, e3, e4]
      refine ⟨(k, m / 26, UInt8.ofNat (65 + m % 26) :: s), by dsimp only; omega, Dr.now ⟨?_, by dsimp only; omega, by simp; omega, ?_, ?_, ?_, rfl⟩⟩
      · dsimp only
        rw [Nat.pow_succ] at hn
        omega
      · dsimp only
        rw [hqe, lettersF, if_neg (by omega)]
        simp
      · simp (disch := first | assumption | omega) only [go_sem, ↓reduceIte]
      · simp (disch := first | assumption | omega) only [go_sem, reduceCtorEq, Nat.reduceEqDiff, ↓reduceIte]
def colF : Int → List UInt8 → Option Int
  | n, [] => some n
  | n, c :: cs => if letterP c.toNat = 0 ∨ 700 < n then none else colF (26 * n + letterP c.toNat) cs
def columnP (l : List UInt8) : Int × Bool :=
  match colF 0 l with
  | some n => if n < 1 ∨ 700 < n then (0, false) else (n - 1, true)
  | none => (0, false)
theorem letterP_bd (c : Int) : 0 ≤ letterP c ∧ letterP c ≤ 26 := by
  unfold letterP
  split
  · omega
  · split <;> omega
theorem column_ok (l : List UInt8) (hl : l.length ≤ 9223372036854775807) : Pure Tryz.prog 124 [.str l] (.tuple [.int .i64 (columnP l).1, .bool (columnP l).2]) := by
  intro σ
  obtain ⟨q, hq⟩ : ∃ q, columnP l = q := ⟨_, rfl⟩
  rw [hq]
  refine a124 (by simp) ?_
  simp (disch := first | assumption | omega) only [go_sem, reduceCtorEq, ↓reduceIte]
  refine s2b_shr ?_
  simp (disch := first | assumption | omega) only [go_sem, ↓reduceIte]
  refine wp_loop_by (fun (i : Nat × Int) a σ' => i.1 ≤ l.length ∧ 0 ≤ i.2 ∧ i.2 ≤ 18226 ∧ colF 0 l = colF i.2 (l.drop i.1) ∧ a 4 = .int .i64 i.2 ∧ a 8 = .sl .shr (bytesAV l) ∧ a 9 = .int .i64 l.length ∧ a 10 = .int .i64 i.1 ∧ a 2 = .int .i64 0 ∧ a 3 = .bool false ∧ σ' = σ) (fun i => l.length - i.1) (0, 0) (Dr.now ⟨by simp, by simp, by simp, rfl, ?_, ?_, ?_, ?_, ?_, ?_, rfl⟩) ?_
  · simp (disch := first | assumption | omega) only [go_sem, Nat.reduceEqDiff, ↓reduceIte]
  · simp (disch := first | assumption | omega) only [go_sem, Nat.reduceEqDiff, ↓reduceIte]
  · simp (disch := first | assumption | omega) only [go_sem, Nat.reduceEqDiff, ↓reduceIte]
  · simp (disch := first | assumption | omega) only [go_sem, ↓reduceIte]
  · simp (disch := first | assumption | omega) only [go_sem, Nat.reduceEqDiff, ↓reduceIte]
  · simp (disch := first | assumption | omega) only [go_sem, Nat.reduceEqDiff, ↓reduceIte]
  rintro ⟨i, n⟩ a σ1 ⟨hi, hn0, hn1, hcol, h4, h8, h9, h10, h2, h3, rfl⟩
  dsimp only at hi hn0 hn1 hcol h4 h10
  by_cases hlt : i < l.length
  · have hidx : l[i]? = some (l[i]'hlt) := List.getElem?_eq_getElem hlt
    obtain ⟨c, hc⟩ : ∃ c, l[i]'hlt = c := ⟨_, rfl⟩
    rw [hc] at hidx
    have hcb : (c.toNat : Int) ≤ 255 := by have := c.toNat_lt; omega
    have hbd := letterP_bd c.toNat
    rw [List.drop_eq_getElem_cons hlt, hc, colF] at hcol
    repeat' (first | (simp (disch := first | assumption | omega) only [go_sem, Nat.reduceEqDiff, ↓reduceIte, h4, h8, h9, h10, hidx]) | refine (letter_ok c.toNat (by omega) hcb).use ?_ | with_reducible refine gC_d (fun h => ?_) (fun h => ?_) | with_reducible refine gC_dn (fun h => ?_) (fun h => ?_) | with_reducible refine condC_d (fun h => ?_) (fun h => ?_) | with_reducible refine condC_n (fun h => ?_) (fun h => ?_) | with_reducible refine condC_b (fun h => ?_) (fun h => ?_) | with_reducible refine boxC_by ?_ fun b hb => ?_)
    · rw [if_pos (by omega)] at hcol
      unfold columnP at hq
      rw [hcol] at hq
      subst hq
      exact retC_by (Drop.refl _) (.refl _) ⟨rfl, rfl⟩
    · rename_i hz
      rw [if_neg (by omega)] at hcol
      refine ⟨(i + 1, 26 * n + letterP c.toNat), by dsimp only; omega, Dr.now ⟨by dsimp only; omega, by dsimp only; omega, by dsimp only; omega, hcol, ?_, ?_, ?_, ?_, ?_, ?_, rfl⟩⟩
      · simp (disch := first | assumption | omega) only [go_sem, Nat.reduceEqDiff, ↓reduceIte]
      · simp (disch := first | assumption | omega) only [go_sem, Nat.reduceEqDiff, ↓reduceIte, h8]
      · simp (disch := first | assumption | omega) only [go_sem, Nat.reduceEqDiff, ↓reduceIte, h9]
      · simp (disch := first | assumption | omega) only [go_sem, ↓reduceIte]
      · simp (disch := first | assumption | omega) only [go_sem, Nat.reduceEqDiff, ↓reduceIte, h2]
      · simp (disch := first | assumption | omega) only [go_sem, Nat.reduceEqDiff, ↓reduceIte, h3]
    · rw [if_pos (by omega)] at hcol
      unfold columnP at hq
      rw [hcol] at hq
      subst hq
      exact retC_by (Drop.refl _) (.refl _) ⟨rfl, rfl⟩
  · have e : l.drop i = [] := List.drop_eq_nil_of_le (by omega)
    rw [e, colF] at hcol
    unfold columnP at hq
    rw [hcol] at hq
    repeat' (first | (simp (disch := first | assumption | omega) only [go_sem, Nat.reduceEqDiff, ↓reduceIte, h4, h9, h10]) | with_reducible refine gC_d (fun h => ?_) (fun h => ?_) | with_reducible refine gC_dn (fun h => ?_) (fun h => ?_) | with_reducible refine condC_d (fun h => ?_) (fun h => ?_) | with_reducible refine condC_n (fun h => ?_) (fun h => ?_) | with_reducible refine condC_b (fun h => ?_) (fun h => ?_) | with_reducible refine boxC_by ?_ fun b hb => ?_)
    all_goals refine retC_by (Drop.refl _) (.refl _) ⟨?_, rfl⟩
    all_goals (simp only [resV_two] at *; split at hq) <;> first | (subst hq; rfl) | (exfalso; omega)
end Go.A
namespace Go.A
open Go.Proofs
/-! 107: tabular/addr.Read -/
def c107_0 : ACode := .ops [
 ⟨some 2, none, .e (.alloc [(.int .i64 0), (.int .i64 0), (.bool false), (.bool false)]), []⟩,
 ⟨some 3, none, .q (.mv (.v (.int .i64 0))), []⟩]
def c107_1 : ACode := .ops [
 ⟨some 4, none, .e (.alloc [(.int .i64 0), (.int .i64 0), (.bool false), (.bool false)]), []⟩]
def c107_2 : ACode := .ops [
 ⟨some 5, none, .q (.mv (.v (.int .i64 0))), []⟩]
def c107_3 : ACode := .ops [
 ⟨some 11, none, .q (.mv (.t 5)), []⟩,
 ⟨some 12, none, .q (.mv (.t 0)), []⟩,
 ⟨some 13, none, .q (.lenS (.t 12)), []⟩,
 ⟨some 14, none, .q (.bin .lss (.t 11) (.t 13)), []⟩,
 ⟨some 15, none, .q (.mv (.t 14)), []⟩,
 ⟨some 16, some (15, true), .q (.mv (.t 0)), []⟩,
 ⟨some 17, some (15, true), .q (.mv (.t 5)), []⟩,
 ⟨some 18, some (15, true), .q (.idx (.t 16) (.t 17)), []⟩,
 ⟨some 19, some (15, true), .q (.bin .eql (.t 18) (.v (.int .u8 36))), []⟩,
 ⟨some 20, none, .q (.pick (.t 15) (.t 19) (.v (.bool false))), []⟩]
def c107_4 : ACode := .ops [
 ⟨some 21, none, .q (.fa 3 (.t 4)), []⟩,
 ⟨none, none, .e (.store 1 (.t 21) (.v (.bool true))), []⟩]
def c107_5 : ACode := .ops [
 ⟨some 22, none, .q (.mv (.t 5)), []⟩,
 ⟨some 23, none, .q (.bin .add (.t 22) (.v (.int .i64 1))), []⟩,
 ⟨some 5, none, .q (.mv (.t 23)), []⟩]
def c107_6 : ACode := .seq c107_4 c107_5
def c107_7 : ACode := .cond (.t 20) c107_6 .skip
def c107_8 : ACode := .seq c107_3 c107_7
def c107_9 : ACode := .ops [
 ⟨some 24, none, .q (.mv (.t 5)), []⟩,
 ⟨some 6, none, .q (.mv (.t 24)), []⟩]
def c107_10 : ACode := .ops [
 ⟨some 25, none, .q (.mv (.t 5)), []⟩,
 ⟨some 26, none, .q (.mv (.t 0)), []⟩,
 ⟨some 27, none, .q (.lenS (.t 26)), []⟩,
 ⟨some 28, none, .q (.bin .lss (.t 25) (.t 27)), []⟩,
 ⟨some 29, none, .q (.mv (.t 28)), []⟩,
 ⟨some 30, some (29, true), .q (.mv (.t 0)), []⟩,
 ⟨some 31, some (29, true), .q (.mv (.t 5)), []⟩,
 ⟨some 32, some (29, true), .q (.idx (.t 30) (.t 31)), []⟩,
 ⟨some 33, some (29, true), .e (.call 123 [(.t 32)]), []⟩,
 ⟨some 34, some (29, true), .q (.bin .gtr (.t 33) (.v (.int .i64 0))), []⟩,
 ⟨some 35, none, .q (.pick (.t 29) (.t 34) (.v (.bool false))), []⟩]
def c107_11 : ACode := .cond (.t 35) .skip (.exit 0)
def c107_12 : ACode := .seq c107_10 c107_11
def c107_13 : ACode := .ops [
 ⟨some 36, none, .q (.mv (.t 5)), []⟩,
 ⟨some 37, none, .q (.bin .add (.t 36) (.v (.int .i64 1))), []⟩,
 ⟨some 5, none, .q (.mv (.t 37)), []⟩]
def c107_14 : ACode := .block 1 c107_13
def c107_15 : ACode := .seq c107_12 c107_14
def c107_16 : ACode := .loop c107_15
def c107_17 : ACode := .block 0 c107_16
def c107_18 : ACode := .ops [
 ⟨some 39, none, .q (.mv (.t 0)), []⟩,
 ⟨some 40, none, .q (.mv (.t 6)), []⟩,
 ⟨some 41, none, .q (.mv (.t 5)), []⟩,
 ⟨some 42, none, .q (.sls (true, 0) (.t 39) (.t 40) (.t 41)), []⟩,
 ⟨some 43, none, .e (.call 124 [(.t 42)]), []⟩,
 ⟨some 38, none, .q (.mv (.t 43)), []⟩,
 ⟨some 44, none, .q (.ext 0 (.t 38)), []⟩,
 ⟨some 45, none, .q (.ext 1 (.t 38)), []⟩,
 ⟨some 7, none, .q (.mv (.t 44)), []⟩,
 ⟨some 8, none, .q (.mv (.t 45)), []⟩]
def c107_19 : ACode := .ops [
 ⟨some 46, none, .q (.mv (.t 8)), []⟩,
 ⟨some 47, none, .q (.un .not (.t 46)), []⟩]
def c107_20 : ACode := .ops [
 ⟨some 48, none, .q (.build [(.int .i64 0), (.int .i64 0), (.bool false), (.bool false)] []), []⟩,
 ⟨none, none, .e (.store 4 (.t 2) (.t 48)), []⟩,
 ⟨some 3, none, .q (.mv (.v (.int .i64 0))), []⟩]
def c107_21 : ACode := .seq c107_20 .ret
def c107_22 : ACode := .cond (.t 47) c107_21 .skip
def c107_23 : ACode := .seq c107_19 c107_22
def c107_24 : ACode := .ops [
 ⟨some 49, none, .q (.mv (.t 5)), []⟩,
 ⟨some 50, none, .q (.mv (.t 0)), []⟩,
 ⟨some 51, none, .q (.lenS (.t 50)), []⟩,
 ⟨some 52, none, .q (.bin .lss (.t 49) (.t 51)), []⟩,
 ⟨some 53, none, .q (.mv (.t 52)), []⟩,
 ⟨some 54, some (53, true), .q (.mv (.t 0)), []⟩,
 ⟨some 55, some (53, true), .q (.mv (.t 5)), []⟩,
 ⟨some 56, some (53, true), .q (.idx (.t 54) (.t 55)), []⟩,
 ⟨some 57, some (53, true), .q (.bin .eql (.t 56) (.v (.int .u8 36))), []⟩,
 ⟨some 58, none, .q (.pick (.t 53) (.t 57) (.v (.bool false))), []⟩]
def c107_25 : ACode := .ops [
 ⟨some 59, none, .q (.fa 2 (.t 4)), []⟩,
 ⟨none, none, .e (.store 1 (.t 59) (.v (.bool true))), []⟩]
def c107_26 : ACode := .ops [
 ⟨some 60, none, .q (.mv (.t 5)), []⟩,
 ⟨some 61, none, .q (.bin .add (.t 60) (.v (.int .i64 1))), []⟩,
 ⟨some 5, none, .q (.mv (.t 61)), []⟩]
def c107_27 : ACode := .seq c107_25 c107_26
def c107_28 : ACode := .cond (.t 58) c107_27 .skip
def c107_29 : ACode := .seq c107_24 c107_28
def c107_30 : ACode := .ops [
 ⟨some 62, none, .q (.mv (.t 5)), []⟩,
 ⟨some 9, none, .q (.mv (.v (.int .i64 0))), []⟩,
 ⟨some 10, none, .q (.mv (.t 62)), []⟩]
def c107_31 : ACode := .ops [
 ⟨some 63, none, .q (.mv (.t 5)), []⟩,
 ⟨some 64, none, .q (.mv (.t 0)), []⟩,
 ⟨some 65, none, .q (.lenS (.t 64)), []⟩,
 ⟨some 66, none, .q (.bin .lss (.t 63) (.t 65)), []⟩,
 ⟨some 67, none, .q (.mv (.t 66)), []⟩,
 ⟨some 68, some (67, true), .q (.mv (.t 0)), []⟩,
 ⟨some 69, some (67, true), .q (.mv (.t 5)), []⟩,
 ⟨some 70, some (67, true), .q (.idx (.t 68) (.t 69)), []⟩,
 ⟨some 71, some (67, true), .q (.bin .geq (.t 70) (.v (.int .u8 48))), []⟩,
 ⟨some 72, none, .q (.pick (.t 67) (.t 71) (.v (.bool false))), []⟩,
 ⟨some 73, none, .q (.mv (.t 72)), []⟩,
 ⟨some 74, some (73, true), .q (.mv (.t 0)), []⟩,
 ⟨some 75, some (73, true), .q (.mv (.t 5)), []⟩,
 ⟨some 76, some (73, true), .q (.idx (.t 74) (.t 75)), []⟩,
 ⟨some 77, some (73, true), .q (.bin .leq (.t 76) (.v (.int .u8 57))), []⟩,
 ⟨some 78, none, .q (.pick (.t 73) (.t 77) (.v (.bool false))), []⟩]
def c107_32 : ACode := .cond (.t 78) .skip (.exit 2)
def c107_33 : ACode := .seq c107_31 c107_32
def c107_34 : ACode := .ops [
 ⟨some 79, none, .q (.mv (.t 9)), []⟩,
 ⟨some 80, none, .q (.bin .mul (.v (.int .i64 10)) (.t 79)), []⟩,
 ⟨some 81, none, .q (.mv (.t 0)), []⟩,
 ⟨some 82, none, .q (.mv (.t 5)), []⟩,
 ⟨some 83, none, .q (.idx (.t 81) (.t 82)), []⟩,
 ⟨some 84, none, .q (.bin .sub (.t 83) (.v (.int .u8 48))), []⟩,
 ⟨some 85, none, .q (.conv .i64 (.t 84)), []⟩,
 ⟨some 86, none, .q (.bin .add (.t 80) (.t 85)), []⟩,
 ⟨some 87, none, .q (.mnx false (.t 86) (.v (.int .i64 3001))), []⟩,
 ⟨some 9, none, .q (.mv (.t 87)), []⟩]
def c107_35 : ACode := .ops [
 ⟨some 88, none, .q (.mv (.t 5)), []⟩,
 ⟨some 89, none, .q (.bin .add (.t 88) (.v (.int .i64 1))), []⟩,
 ⟨some 5, none, .q (.mv (.t 89)), []⟩]
def c107_36 : ACode := .seq c107_34 c107_35
def c107_37 : ACode := .block 3 c107_36
def c107_38 : ACode := .seq c107_33 c107_37
def c107_39 : ACode := .loop c107_38
def c107_40 : ACode := .block 2 c107_39
def c107_41 : ACode := .ops [
 ⟨some 90, none, .q (.mv (.t 9)), []⟩,
 ⟨some 91, none, .q (.bin .lss (.t 90) (.v (.int .i64 1))), []⟩,
 ⟨some 92, none, .q (.mv (.t 91)), []⟩,
 ⟨some 93, some (92, false), .q (.mv (.t 9)), []⟩,
 ⟨some 94, some (92, false), .q (.bin .gtr (.t 93) (.v (.int .i64 3000))), []⟩,
 ⟨some 95, none, .q (.pick (.t 92) (.v (.bool true)) (.t 94)), []⟩,
 ⟨some 96, none, .q (.mv (.t 95)), []⟩,
 ⟨some 97, some (96, false), .q (.mv (.t 0)), []⟩,
 ⟨some 98, some (96, false), .q (.mv (.t 10)), []⟩,
 ⟨some 99, some (96, false), .q (.idx (.t 97) (.t 98)), []⟩,
 ⟨some 100, some (96, false), .q (.bin .eql (.t 99) (.v (.int .u8 48))), []⟩,
 ⟨some 101, none, .q (.pick (.t 96) (.v (.bool true)) (.t 100)), []⟩,
 ⟨some 102, none, .q (.mv (.t 101)), []⟩,
 ⟨some 103, some (102, false), .q (.mv (.t 0)), []⟩,
 ⟨some 104, some (102, false), .q (.mv (.t 5)), []⟩,
 ⟨some 105, some (102, false), .e (.call 125 [(.t 103), (.t 104)]), []⟩,
 ⟨some 106, some (102, false), .e (.call 123 [(.t 105)]), []⟩,
 ⟨some 107, some (102, false), .q (.bin .gtr (.t 106) (.v (.int .i64 0))), []⟩,
 ⟨some 108, none, .q (.pick (.t 102) (.v (.bool true)) (.t 107)), []⟩,
 ⟨some 109, none, .q (.mv (.t 108)), []⟩,
 ⟨some 110, some (109, false), .q (.mv (.t 0)), []⟩,
 ⟨some 111, some (109, false), .q (.mv (.t 5)), []⟩,
 ⟨some 112, some (109, false), .e (.call 125 [(.t 110), (.t 111)]), []⟩,
 ⟨some 113, some (109, false), .q (.bin .eql (.t 112) (.v (.int .u8 95))), []⟩,
 ⟨some 114, none, .q (.pick (.t 109) (.v (.bool true)) (.t 113)), []⟩]
def c107_42 : ACode := .ops [
 ⟨some 115, none, .q (.build [(.int .i64 0), (.int .i64 0), (.bool false), (.bool false)] []), []⟩,
 ⟨none, none, .e (.store 4 (.t 2) (.t 115)), []⟩,
 ⟨some 3, none, .q (.mv (.v (.int .i64 0))), []⟩]
def c107_43 : ACode := .seq c107_42 .ret
def c107_44 : ACode := .cond (.t 114) c107_43 .skip
def c107_45 : ACode := .seq c107_41 c107_44
def c107_46 : ACode := .ops [
 ⟨some 116, none, .q (.mv (.t 9)), []⟩,
 ⟨some 117, none, .q (.bin .sub (.t 116) (.v (.int .i64 1))), []⟩,
 ⟨some 118, none, .q (.mv (.t 7)), []⟩,
 ⟨some 119, none, .q (.fa 0 (.t 4)), []⟩,
 ⟨none, none, .e (.store 1 (.t 119) (.t 117)), []⟩,
 ⟨some 120, none, .q (.fa 1 (.t 4)), []⟩,
 ⟨none, none, .e (.store 1 (.t 120) (.t 118)), []⟩]
def c107_47 : ACode := .ops [
 ⟨some 121, none, .q (.ld (some 4) (.t 4)), []⟩,
 ⟨some 122, none, .q (.mv (.t 5)), []⟩,
 ⟨none, none, .e (.store 4 (.t 2) (.t 121)), []⟩,
 ⟨some 3, none, .q (.mv (.t 122)), []⟩]
def c107_48 : ACode := .seq c107_47 .ret
def c107_49 : ACode := .seq c107_46 c107_48
def c107_50 : ACode := .seq c107_45 c107_49
def c107_51 : ACode := .seq c107_40 c107_50
def c107_52 : ACode := .seq c107_30 c107_51
def c107_53 : ACode := .seq c107_29 c107_52
def c107_54 : ACode := .seq c107_23 c107_53
def c107_55 : ACode := .seq c107_18 c107_54
def c107_56 : ACode := .seq c107_17 c107_55
def c107_57 : ACode := .seq c107_9 c107_56
def c107_58 : ACode := .seq c107_8 c107_57
def c107_59 : ACode := .seq c107_2 c107_58
def c107_60 : ACode := .seq c107_1 c107_59
def c107_61 : ACode := .seq c107_0 c107_60
@[go_sem] def c107_0_wp := wp_of c107_0.eq_1
@[go_sem] def c107_1_wp := wp_of c107_1.eq_1
@[go_sem] def c107_2_wp := wp_of c107_2.eq_1
@[go_sem] def c107_3_wp := wp_of c107_3.eq_1
@[go_sem] def c107_4_wp := wp_of c107_4.eq_1
@[go_sem] def c107_5_wp := wp_of c107_5.eq_1
@[go_sem] def c107_6_wp := wp_of c107_6.eq_1
@[go_sem] def c107_7_wp := wp_of c107_7.eq_1
@[go_sem] def c107_8_wp := wp_of c107_8.eq_1
@[go_sem] def c107_9_wp := wp_of c107_9.eq_1
@[go_sem] def c107_10_wp := wp_of c107_10.eq_1
@[go_sem] def c107_11_wp := wp_of c107_11.eq_1
@[go_sem] def c107_12_wp := wp_of c107_12.eq_1
@[go_sem] def c107_13_wp := wp_of c107_13.eq_1
@[go_sem] def c107_14_wp := wp_of c107_14.eq_1
@[go_sem] def c107_15_wp := wp_of c107_15.eq_1
@[go_sem] def c107_16_wp := wp_of c107_16.eq_1
@[go_sem] def c107_17_wp := wp_of c107_17.eq_1
@[go_sem] def c107_18_wp := wp_of c107_18.eq_1
@[go_sem] def c107_19_wp := wp_of c107_19.eq_1
@[go_sem] def c107_20_wp := wp_of c107_20.eq_1
@[go_sem] def c107_21_wp := wp_of c107_21.eq_1
@[go_sem] def c107_22_wp := wp_of c107_22.eq_1
@[go_sem] def c107_23_wp := wp_of c107_23.eq_1
@[go_sem] def c107_24_wp := wp_of c107_24.eq_1
@[go_sem] def c107_25_wp := wp_of c107_25.eq_1
@[go_sem] def c107_26_wp := wp_of c107_26.eq_1
@[go_sem] def c107_27_wp := wp_of c107_27.eq_1
@[go_sem] def c107_28_wp := wp_of c107_28.eq_1
@[go_sem] def c107_29_wp := wp_of c107_29.eq_1
@[go_sem] def c107_30_wp := wp_of c107_30.eq_1
@[go_sem] def c107_31_wp := wp_of c107_31.eq_1
@[go_sem] def c107_32_wp := wp_of c107_32.eq_1
@[go_sem] def c107_33_wp := wp_of c107_33.eq_1
@[go_sem] def c107_34_wp := wp_of c107_34.eq_1
@[go_sem] def c107_35_wp := wp_of c107_35.eq_1
@[go_sem] def c107_36_wp := wp_of c107_36.eq_1
@[go_sem] def c107_37_wp := wp_of c107_37.eq_1
@[go_sem] def c107_38_wp := wp_of c107_38.eq_1
@[go_sem] def c107_39_wp := wp_of c107_39.eq_1
@[go_sem] def c107_40_wp := wp_of c107_40.eq_1
@[go_sem] def c107_41_wp := wp_of c107_41.eq_1
@[go_sem] def c107_42_wp := wp_of c107_42.eq_1
@[go_sem] def c107_43_wp := wp_of c107_43.eq_1
@[go_sem] def c107_44_wp := wp_of c107_44.eq_1
@[go_sem] def c107_45_wp := wp_of c107_45.eq_1
@[go_sem] def c107_46_wp := wp_of c107_46.eq_1
@[go_sem] def c107_47_wp := wp_of c107_47.eq_1
@[go_sem] def c107_48_wp := wp_of c107_48.eq_1
@[go_sem] def c107_49_wp := wp_of c107_49.eq_1
@[go_sem] def c107_50_wp := wp_of c107_50.eq_1
@[go_sem] def c107_51_wp := wp_of c107_51.eq_1
@[go_sem] def c107_52_wp := wp_of c107_52.eq_1
@[go_sem] def c107_53_wp := wp_of c107_53.eq_1
@[go_sem] def c107_54_wp := wp_of c107_54.eq_1
@[go_sem] def c107_55_wp := wp_of c107_55.eq_1
@[go_sem] def c107_56_wp := wp_of c107_56.eq_1
@[go_sem] def c107_57_wp := wp_of c107_57.eq_1
@[go_sem] def c107_58_wp := wp_of c107_58.eq_1
@[go_sem] def c107_59_wp := wp_of c107_59.eq_1
@[go_sem] def c107_60_wp := wp_of c107_60.eq_1
@[go_sem] def c107_61_wp := wp_of c107_61.eq_1
def c107 : AFn := ⟨123, [.c 2 (some 4), .t 3], c107_61⟩
theorem c107_ok : compF Tryz.prog Tryz.f107 = some c107 := by kernel_rfl
theorem a107 {args : List AV} {σ : ASt} {R : AV → ASt → Prop} (hl : args.length ≤ 123) (h : c107_61.wp Tryz.prog (RetQ [.c 2 (some 4), .t 3] R) (init args) σ) : ACalls Tryz.prog 107 args σ R := acalls_of Tryz.func107 c107_ok hl h
/-! 125: tabular/addr.at -/
def c125_0 : ACode := .ops [
 ⟨some 4, none, .q (.mv (.v (.int .u8 0))), []⟩]
def c125_1 : ACode := .ops [
 ⟨some 5, none, .q (.mv (.t 1)), []⟩,
 ⟨some 6, none, .q (.mv (.t 0)), []⟩,
 ⟨some 7, none, .q (.lenS (.t 6)), []⟩,
 ⟨some 8, none, .q (.bin .lss (.t 5) (.t 7)), []⟩]
def c125_2 : ACode := .ops [
 ⟨some 9, none, .q (.mv (.t 0)), []⟩,
 ⟨some 10, none, .q (.mv (.t 1)), []⟩,
 ⟨some 11, none, .q (.idx (.t 9) (.t 10)), []⟩,
 ⟨some 4, none, .q (.mv (.t 11)), []⟩]
def c125_3 : ACode := .seq c125_2 .ret
def c125_4 : ACode := .cond (.t 8) c125_3 .skip
def c125_5 : ACode := .seq c125_1 c125_4
def c125_6 : ACode := .ops [
 ⟨some 4, none, .q (.mv (.v (.int .u8 0))), []⟩]
def c125_7 : ACode := .seq c125_6 .ret
def c125_8 : ACode := .seq c125_5 c125_7
def c125_9 : ACode := .seq c125_0 c125_8
@[go_sem] def c125_0_wp := wp_of c125_0.eq_1
@[go_sem] def c125_1_wp := wp_of c125_1.eq_1
@[go_sem] def c125_2_wp := wp_of c125_2.eq_1
@[go_sem] def c125_3_wp := wp_of c125_3.eq_1
@[go_sem] def c125_4_wp := wp_of c125_4.eq_1
@[go_sem] def c125_5_wp := wp_of c125_5.eq_1
@[go_sem] def c125_6_wp := wp_of c125_6.eq_1
@[go_sem] def c125_7_wp := wp_of c125_7.eq_1
@[go_sem] def c125_8_wp := wp_of c125_8.eq_1
@[go_sem] def c125_9_wp := wp_of c125_9.eq_1
def c125 : AFn := ⟨12, [.t 4], c125_9⟩
theorem c125_ok : compF Tryz.prog Tryz.f125 = some c125 := by kernel_rfl
theorem a125 {args : List AV} {σ : ASt} {R : AV → ASt → Prop} (hl : args.length ≤ 12) (h : c125_9.wp Tryz.prog (RetQ [.t 4] R) (init args) σ) : ACalls Tryz.prog 125 args σ R := acalls_of Tryz.func125 c125_ok hl h
end Go.A
namespace Go.A
open Go.Proofs
def atP (l : List UInt8) (i : Nat) : Int := match l[i]? with
  | some c => c.toNat
  | none => 0
theorem atP_bd (l : List UInt8) (i : Nat) : 0 ≤ atP l i ∧ atP l i ≤ 255 := by
  unfold atP
  split
  · rename_i c _; have := c.toNat_lt; omega
  · omega
theorem at_ok (l : List UInt8) (i : Nat) (hl : l.length ≤ 9223372036854775807) (hi : i ≤ l.length) : Pure Tryz.prog 125 [.str l, .int .i64 i] (.int .u8 (atP l i)) := by
  intro σ
  refine a125 (by simp) ?_
  unfold atP
  by_cases hlt : i < l.length
  · have hidx : l[i]? = some (l[i]'hlt) := List.getElem?_eq_getElem hlt
    rw [hidx]
    simp (disch := first | assumption | omega) only [go_sem, reduceCtorEq, Nat.reduceEqDiff, ↓reduceIte, hidx]
    exact retC_by (Drop.refl _) (.refl _) ⟨rfl, rfl⟩
  · rw [List.getElem?_eq_none (by omega)]
    simp (disch := first | assumption | omega) only [go_sem, reduceCtorEq, Nat.reduceEqDiff, ↓reduceIte]
    exact retC_by (Drop.refl _) (.refl _) ⟨rfl, rfl⟩
def runL (p : UInt8 → Bool) : List UInt8 → Nat
  | [] => 0
  | c :: cs => if p c then runL p cs + 1 else 0
theorem runL_le (p : UInt8 → Bool) : ∀ l, runL p l ≤ l.length
  | [] => Nat.le_refl _
  | c :: cs => by
    have := runL_le p cs
    unfold runL
    split <;> simp <;> omega
def isL (c : UInt8) : Bool := decide (0 < letterP c.toNat)
def isD (c : UInt8) : Bool := decide (48 ≤ c.toNat ∧ c.toNat ≤ 57)
def numF : Int → List UInt8 → Int
  | n, [] => n
  | n, c :: cs => if isD c then numF (min (10 * n + (c.toNat - 48)) 3001) cs else n
def readQ (l : List UInt8) (i : Nat) (col : Int) (ar ac : Bool) : Ref × Int :=
  if numF 0 (l.drop i) < 1 ∨ 3000 < numF 0 (l.drop i) ∨ atP l i = 48 ∨ 0 < letterP (atP l (i + runL isD (l.drop i))) ∨ atP l (i + runL isD (l.drop i)) = 95 then (.zero, 0)
  else (⟨numF 0 (l.drop i) - 1, col, ar, ac⟩, (i + runL isD (l.drop i) : Nat))
set_option maxHeartbeats 1000000 in
theorem read2 (l : List UInt8) (hl : l.length ≤ 9223372036854775000) (σ : ASt) (b0 b1 : Nat) (hb0 : σ b0 = none) (hb1 : σ b1 = none) (n1 : b0 ≠ b1) (i2 : Nat) (hi2 : i2 ≤ l.length) (col : Int) (ar ac : Bool) (q : Ref × Int) (hq : readQ l i2 col ar ac = q)
    (a : AFr) (h0 : a 0 = .str l) (h2 : a 2 = .ptr b0 0) (h4 : a 4 = .ptr b1 0) (h5 : a 5 = .int .i64 i2) (h7 : a 7 = .int .i64 col) :
    ACode.wp Tryz.prog c107_52 (RetQ [.c 2 (some 4), .t 3] fun v σ' => v = .tuple [refAV q.1, .int .i64 q.2] ∧ σ' = σ) a
      ((σ.set b0 (some (.obj [.int .i64 0, .int .i64 0, .bool false, .bool false]))).set b1 (some (.obj [.int .i64 0, .int .i64 0, .bool ar, .bool ac]))) := by
  have n2 : b1 ≠ b0 := Ne.symm n1
  obtain ⟨F, hF⟩ : ∃ F, F = ACode.wp Tryz.prog c107_50 := ⟨_, rfl⟩
  have fin : ∀ (i : Nat) (n : Int) (a : AFr), i2 ≤ i → i ≤ l.length → 0 ≤ n → n ≤ 3001 → (n = 0 ∨ i2 < i) → i2 + runL isD (l.drop i2) = i → numF 0 (l.drop i2) = n →
      a 0 = .str l → a 2 = .ptr b0 0 → a 4 = .ptr b1 0 → a 5 = .int .i64 i → a 7 = .int .i64 col → a 9 = .int .i64 n → a 10 = .int .i64 i2 →
      F (RetQ [.c 2 (some 4), .t 3] fun v σ' => v = .tuple [refAV q.1, .int .i64 q.2] ∧ σ' = σ) a
        ((σ.set b0 (some (.obj [.int .i64 0, .int .i64 0, .bool false, .bool false]))).set b1 (some (.obj [.int .i64 0, .int .i64 0, .bool ar, .bool ac]))) := by
    rw [hF]
    intro i n a hi hil hn0 hn1 hni hrun hnum h0 h2 h4 h5 h7 h9 h10
    unfold readQ at hq
    rw [hrun, hnum] at hq
    by_cases hn : n < 1
    · rw [if_pos (.inl hn)] at hq
      subst hq
      repeat' (first | (simp (disch := first | assumption | omega) only [go_sem, Nat.reduceEqDiff, Nat.reduceAdd, Nat.reduceLeDiff, ↓reduceIte, Bool.true_and, h2, h9, hn, refAV]) | with_reducible refine gC_d (fun h => ?_) (fun h => ?_) | with_reducible refine gC_dn (fun h => ?_) (fun h => ?_) | with_reducible refine condC_d (fun h => ?_) (fun h => ?_) | with_reducible refine condC_n (fun h => ?_) (fun h => ?_) | with_reducible refine condC_b (fun h => ?_) (fun h => ?_) | with_reducible refine boxC_by ?_ fun b hb => ?_)
      all_goals exact retC_by (by repeat' (first | exact Drop.refl _ | with_reducible refine Drop.off ?_ (by assumption))) (.refl _) ⟨rfl, rfl⟩
    · have hidx : l[i2]? = some (l[i2]'(by omega)) := List.getElem?_eq_getElem (by omega)
      obtain ⟨c, hc⟩ : ∃ c, l[i2]'(by omega) = c := ⟨_, rfl⟩
      rw [hc] at hidx
      have hat : atP l i2 = c.toNat := by unfold atP; rw [hidx]
      rw [hat] at hq
      have hb := atP_bd l i
      repeat' (first | (simp (disch := first | assumption | omega) only [go_sem, reduceCtorEq, Nat.reduceEqDiff, Nat.reduceAdd, Nat.reduceLeDiff, ↓reduceIte, Bool.true_and, h0, h2, h4, h5, h7, h9, h10, hn, hidx, refAV]) | refine (at_ok l i (by omega) hil).use ?_ | refine (letter_ok _ hb.1 hb.2).use ?_ | with_reducible refine gC_d (fun h => ?_) (fun h => ?_) | with_reducible refine gC_dn (fun h => ?_) (fun h => ?_) | with_reducible refine condC_d (fun h => ?_) (fun h => ?_) | with_reducible refine condC_n (fun h => ?_) (fun h => ?_) | with_reducible refine condC_b (fun h => ?_) (fun h => ?_) | with_reducible refine boxC_by ?_ fun b hb => ?_)
      all_goals first
        | (rw [if_pos (by omega)] at hq
           subst hq
           exact retC_by (by repeat' (first | exact Drop.refl _ | with_reducible refine Drop.off ?_ (by assumption))) (.refl _) ⟨rfl, rfl⟩)
        | (rw [if_neg (by omega)] at hq
           subst hq
           exact retC_by (by repeat' (first | exact Drop.refl _ | with_reducible refine Drop.off ?_ (by assumption))) (.refl _) ⟨rfl, rfl⟩)
  simp (disch := first | assumption | omega) only [go_sem, Nat.reduceEqDiff, ↓reduceIte, h5]
  rw [← hF]
  refine wp_loop_by (fun (i : Nat × Int) a σ' => i2 ≤ i.1 ∧ i.1 ≤ l.length ∧ 0 ≤ i.2 ∧ i.2 ≤ 3001 ∧ (i.2 = 0 ∨ i2 < i.1) ∧ i2 + runL isD (l.drop i2) = i.1 + runL isD (l.drop i.1) ∧ numF 0 (l.drop i2) = numF i.2 (l.drop i.1) ∧
    a 0 = .str l ∧ a 2 = .ptr b0 0 ∧ a 4 = .ptr b1 0 ∧ a 5 = .int .i64 i.1 ∧ a 7 = .int .i64 col ∧ a 9 = .int .i64 i.2 ∧ a 10 = .int .i64 i2 ∧
    σ' = (σ.set b0 (some (.obj [.int .i64 0, .int .i64 0, .bool false, .bool false]))).set b1 (some (.obj [.int .i64 0, .int .i64 0, .bool ar, .bool ac]))) (fun i => l.length - i.1) (i2, 0)
    (Dr.now ⟨Nat.le_refl _, hi2, by simp, by simp, .inl rfl, rfl, rfl, ?_, ?_, ?_, ?_, ?_, ?_, ?_, rfl⟩) ?_
  · simp (disch := first | assumption | omega) only [go_sem, reduceCtorEq, ↓reduceIte, h0]
  · simp (disch := first | assumption | omega) only [go_sem, Nat.reduceEqDiff, ↓reduceIte, h2]
  · simp (disch := first | assumption | omega) only [go_sem, Nat.reduceEqDiff, ↓reduceIte, h4]
  · simp (disch := first | assumption | omega) only [go_sem, Nat.reduceEqDiff, ↓reduceIte, h5]
  · simp (disch := first | assumption | omega) only [go_sem, Nat.reduceEqDiff, ↓reduceIte, h7]
  · simp (disch := first | assumption | omega) only [go_sem, Nat.reduceEqDiff, ↓reduceIte]
  · simp (disch := first | assumption | omega) only [go_sem, ↓reduceIte]
  clear h0 h2 h4 h5 h7
  rintro ⟨i, n⟩ a σ1 ⟨hi, hil, hn0, hn1, hni, hrun, hnum, h0, h2, h4, h5, h7, h9, h10, rfl⟩
  dsimp only at hi hil hn0 hn1 hni hrun hnum h5 h9
  by_cases hlt : i < l.length
  · have hidx : l[i]? = some (l[i]'hlt) := List.getElem?_eq_getElem hlt
    obtain ⟨c, hc⟩ : ∃ c, l[i]'hlt = c := ⟨_, rfl⟩
    rw [hc] at hidx
    have hcb : (c.toNat : Int) ≤ 255 := by have := c.toNat_lt; omega
    rw [List.drop_eq_getElem_cons hlt, hc, runL] at hrun
    rw [List.drop_eq_getElem_cons hlt, hc, numF] at hnum
    have hat : atP l i = c.toNat := by unfold atP; rw [hidx]
    by_cases hd : 48 ≤ (c.toNat : Int) ∧ (c.toNat : Int) ≤ 57
    · have hD : isD c = true := by unfold isD; simp; omega
      rw [if_pos hD] at hrun hnum
      have hd1 := hd.1
      have hd2 := hd.2
      simp (disch := first | assumption | omega) only [go_sem, reduceCtorEq, Nat.reduceEqDiff, ↓reduceIte, h0, h5, h9, hidx, hd1, hd2]
      refine ⟨(i + 1, min (10 * n + (c.toNat - 48)) 3001), by dsimp only; omega, Dr.now ⟨by dsimp only; omega, by dsimp only; omega, by dsimp only; omega, by dsimp only; omega, by dsimp only; omega, by dsimp only; omega, hnum, ?_, ?_, ?_, ?_, ?_, ?_, ?_, rfl⟩⟩
      · simp (disch := first | assumption | omega) only [go_sem, reduceCtorEq, ↓reduceIte, h0]
      · simp (disch := first | assumption | omega) only [go_sem, Nat.reduceEqDiff, ↓reduceIte, h2]
      · simp (disch := first | assumption | omega) only [go_sem, Nat.reduceEqDiff, ↓reduceIte, h4]
      · simp (disch := first | assumption | omega) only [go_sem, ↓reduceIte]
      · simp (disch := first | assumption | omega) only [go_sem, Nat.reduceEqDiff, ↓reduceIte, h7]
      · simp (disch := first | assumption | omega) only [go_sem, Nat.reduceEqDiff, ↓reduceIte]
      · simp (disch := first | assumption | omega) only [go_sem, Nat.reduceEqDiff, ↓reduceIte, h10]
    · have hD : ¬ isD c = true := by unfold isD; simp; omega
      rw [if_neg hD] at hrun hnum
      repeat' (first | (simp (disch := first | assumption | omega) only [go_sem, reduceCtorEq, Nat.reduceEqDiff, ↓reduceIte, h0, h5, hidx]) | with_reducible refine gC_d (fun h => ?_) (fun h => ?_) | with_reducible refine gC_dn (fun h => ?_) (fun h => ?_) | with_reducible refine condC_d (fun h => ?_) (fun h => ?_) | with_reducible refine condC_n (fun h => ?_) (fun h => ?_) | with_reducible refine condC_b (fun h => ?_) (fun h => ?_) | with_reducible refine boxC_by ?_ fun b hb => ?_)
      all_goals first | (exfalso; omega) | skip
      all_goals refine fin i n _ hi hil hn0 hn1 hni (by omega) hnum ?_ ?_ ?_ ?_ ?_ ?_ ?_ <;> simp (disch := first | assumption | omega) only [go_sem, reduceCtorEq, Nat.reduceEqDiff, ↓reduceIte, h0, h2, h4, h5, h7, h9, h10]
  · have e : l.drop i = [] := List.drop_eq_nil_of_le (by omega)
    rw [e, runL] at hrun
    rw [e, numF] at hnum
    simp (disch := first | assumption | omega) only [go_sem, reduceCtorEq, Nat.reduceEqDiff, ↓reduceIte, h0, h5]
    refine fin i n _ hi hil hn0 hn1 hni (by omega) hnum ?_ ?_ ?_ ?_ ?_ ?_ ?_ <;> simp (disch := first | assumption | omega) only [go_sem, reduceCtorEq, Nat.reduceEqDiff, ↓reduceIte, h0, h2, h4, h5, h7, h9, h10]
def readR (l : List UInt8) (i : Nat) (ac : Bool) : Ref × Int :=
  if (columnP ((l.take (i + runL isL (l.drop i))).drop i)).2 = false then (.zero, 0)
  else if atP l (i + runL isL (l.drop i)) = 36 then readQ l (i + runL isL (l.drop i) + 1) (columnP ((l.take (i + runL isL (l.drop i))).drop i)).1 true ac
  else readQ l (i + runL isL (l.drop i)) (columnP ((l.take (i + runL isL (l.drop i))).drop i)).1 false ac
set_option maxHeartbeats 1000000 in
theorem read1 (l : List UInt8) (hl : l.length ≤ 9223372036854775000) (σ : ASt) (b0 b1 : Nat) (hb0 : σ b0 = none) (hb1 : σ b1 = none) (n1 : b0 ≠ b1) (i0 : Nat) (hi0 : i0 ≤ l.length) (ac : Bool) (q : Ref × Int) (hq : readR l i0 ac = q)
    (a : AFr) (h0 : a 0 = .str l) (h2 : a 2 = .ptr b0 0) (h4 : a 4 = .ptr b1 0) (h5 : a 5 = .int .i64 i0) :
    ACode.wp Tryz.prog c107_57 (RetQ [.c 2 (some 4), .t 3] fun v σ' => v = .tuple [refAV q.1, .int .i64 q.2] ∧ σ' = σ) a
      ((σ.set b0 (some (.obj [.int .i64 0, .int .i64 0, .bool false, .bool false]))).set b1 (some (.obj [.int .i64 0, .int .i64 0, .bool false, .bool ac]))) := by
  have n2 : b1 ≠ b0 := Ne.symm n1
  obtain ⟨F2, hF2⟩ : ∃ F, F = ACode.wp Tryz.prog c107_52 := ⟨_, rfl⟩
  obtain ⟨F3, hF3⟩ : ∃ F, F = ACode.wp Tryz.prog c107_53 := ⟨_, rfl⟩
  obtain ⟨F4, hF4⟩ : ∃ F, F = ACode.wp Tryz.prog c107_54 := ⟨_, rfl⟩
  obtain ⟨F5, hF5⟩ : ∃ F, F = ACode.wp Tryz.prog c107_55 := ⟨_, rfl⟩
  have fin : ∀ (i : Nat) (a : AFr), i0 ≤ i → i ≤ l.length → i0 + runL isL (l.drop i0) = i → a 0 = .str l → a 2 = .ptr b0 0 → a 4 = .ptr b1 0 → a 5 = .int .i64 i → a 6 = .int .i64 i0 →
      F5 (RetQ [.c 2 (some 4), .t 3] fun v σ' => v = .tuple [refAV q.1, .int .i64 q.2] ∧ σ' = σ) a
        ((σ.set b0 (some (.obj [.int .i64 0, .int .i64 0, .bool false, .bool false]))).set b1 (some (.obj [.int .i64 0, .int .i64 0, .bool false, .bool ac]))) := by
    intro i a hi hil hrun h0 h2 h4 h5 h6
    unfold readR at hq
    rw [hrun] at hq
    obtain ⟨C, hC⟩ : ∃ C, columnP ((l.take i).drop i0) = C := ⟨_, rfl⟩
    rw [hC] at hq
    obtain ⟨col, ok⟩ := C
    rw [hF5, c107_55_wp, wp_seq', ← hF4]
    simp (disch := first | assumption | omega) only [go_sem, Nat.reduceEqDiff, ↓reduceIte, h0, h5, h6]
    refine (column_ok ((l.take i).drop i0) (by simp; omega)).use ?_
    rw [hC]
    simp (disch := first | assumption | omega) only [go_sem, Nat.reduceEqDiff, ↓reduceIte]
    rw [hF4, c107_54_wp, wp_seq', ← hF3]
    cases ok
    · rw [if_pos rfl] at hq
      subst hq
      simp (disch := first | assumption | omega) only [go_sem, Nat.reduceEqDiff, Nat.reduceAdd, Nat.reduceLeDiff, ↓reduceIte, Bool.true_and, h2, refAV]
      exact retC_by (by repeat' (first | exact Drop.refl _ | with_reducible refine Drop.off ?_ (by assumption))) (.refl _) ⟨rfl, rfl⟩
    · rw [if_neg (by simp)] at hq
      simp (disch := first | assumption | omega) only [go_sem, ↓reduceIte]
      rw [hF3, c107_53_wp, wp_seq', ← hF2]
      by_cases hlt : i < l.length
      · have hidx : l[i]? = some (l[i]'hlt) := List.getElem?_eq_getElem hlt
        obtain ⟨c, hc⟩ : ∃ c, l[i]'hlt = c := ⟨_, rfl⟩
        rw [hc] at hidx
        have hat : atP l i = c.toNat := by unfold atP; rw [hidx]
        rw [hat] at hq
        by_cases h36 : (c.toNat : Int) = 36
        · rw [if_pos h36] at hq
          simp (disch := first | assumption | omega) only [go_sem, reduceCtorEq, Nat.reduceEqDiff, Nat.reduceAdd, Nat.reduceLeDiff, ↓reduceIte, Bool.true_and, h0, h4, h5, hidx, h36, ASt.set_set]
          rw [hF2]
          refine read2 l hl σ b0 b1 hb0 hb1 n1 (i + 1) (by omega) col true ac q hq _ ?_ ?_ ?_ ?_ ?_ <;> simp (disch := first | assumption | omega) only [go_sem, reduceCtorEq, Nat.reduceEqDiff, ↓reduceIte, h0, h2, h4]
        · rw [if_neg h36] at hq
          simp (disch := first | assumption | omega) only [go_sem, reduceCtorEq, Nat.reduceEqDiff, ↓reduceIte, h0, h5, hidx, h36]
          rw [hF2]
          refine read2 l hl σ b0 b1 hb0 hb1 n1 i (by omega) col false ac q hq _ ?_ ?_ ?_ ?_ ?_ <;> simp (disch := first | assumption | omega) only [go_sem, reduceCtorEq, Nat.reduceEqDiff, ↓reduceIte, h0, h2, h4, h5]
      · have hat : atP l i = 0 := by unfold atP; rw [List.getElem?_eq_none (by omega)]
        rw [hat, if_neg (by omega)] at hq
        simp (disch := first | assumption | omega) only [go_sem, reduceCtorEq, Nat.reduceEqDiff, ↓reduceIte, h0, h5]
        rw [hF2]
        refine read2 l hl σ b0 b1 hb0 hb1 n1 i (by omega) col false ac q hq _ ?_ ?_ ?_ ?_ ?_ <;> simp (disch := first | assumption | omega) only [go_sem, reduceCtorEq, Nat.reduceEqDiff, ↓reduceIte, h0, h2, h4, h5]
  rw [c107_57_wp, wp_seq']
  simp (disch := first | assumption | omega) only [go_sem, ↓reduceIte, h5]
  rw [← hF5]
  refine wp_loop_by (fun (i : Nat) a σ' => i0 ≤ i ∧ i ≤ l.length ∧ i0 + runL isL (l.drop i0) = i + runL isL (l.drop i) ∧ a 0 = .str l ∧ a 2 = .ptr b0 0 ∧ a 4 = .ptr b1 0 ∧ a 5 = .int .i64 i ∧ a 6 = .int .i64 i0 ∧
    σ' = (σ.set b0 (some (.obj [.int .i64 0, .int .i64 0, .bool false, .bool false]))).set b1 (some (.obj [.int .i64 0, .int .i64 0, .bool false, .bool ac]))) (fun i => l.length - i) i0
    (Dr.now ⟨Nat.le_refl _, hi0, rfl, ?_, ?_, ?_, ?_, ?_, rfl⟩) ?_
  · simp (disch := first | assumption | omega) only [go_sem, reduceCtorEq, ↓reduceIte, h0]
  · simp (disch := first | assumption | omega) only [go_sem, Nat.reduceEqDiff, ↓reduceIte, h2]
  · simp (disch := first | assumption | omega) only [go_sem, Nat.reduceEqDiff, ↓reduceIte, h4]
  · simp (disch := first | assumption | omega) only [go_sem, Nat.reduceEqDiff, ↓reduceIte, h5]
  · simp (disch := first | assumption | omega) only [go_sem, ↓reduceIte]
  clear h0 h2 h4 h5
  rintro i a σ1 ⟨hi, hil, hrun, h0, h2, h4, h5, h6, rfl⟩
  by_cases hlt : i < l.length
  · have hidx : l[i]? = some (l[i]'hlt) := List.getElem?_eq_getElem hlt
    obtain ⟨c, hc⟩ : ∃ c, l[i]'hlt = c := ⟨_, rfl⟩
    rw [hc] at hidx
    have hcb : (c.toNat : Int) ≤ 255 := by have := c.toNat_lt; omega
    rw [List.drop_eq_getElem_cons hlt, hc, runL] at hrun
    simp (disch := first | assumption | omega) only [go_sem, reduceCtorEq, Nat.reduceEqDiff, ↓reduceIte, h0, h5, hidx]
    refine (letter_ok c.toNat (by omega) hcb).use ?_
    by_cases hL : 0 < letterP c.toNat
    · rw [if_pos (by unfold isL; simpa using hL)] at hrun
      simp (disch := first | assumption | omega) only [go_sem, Nat.reduceEqDiff, ↓reduceIte, h5, hL]
      refine ⟨i + 1, by dsimp only; omega, Dr.now ⟨by omega, by omega, by omega, ?_, ?_, ?_, ?_, ?_, rfl⟩⟩
      · simp (disch := first | assumption | omega) only [go_sem, reduceCtorEq, ↓reduceIte, h0]
      · simp (disch := first | assumption | omega) only [go_sem, Nat.reduceEqDiff, ↓reduceIte, h2]
      · simp (disch := first | assumption | omega) only [go_sem, Nat.reduceEqDiff, ↓reduceIte, h4]
      · simp (disch := first | assumption | omega) only [go_sem, ↓reduceIte]
      · simp (disch := first | assumption | omega) only [go_sem, Nat.reduceEqDiff, ↓reduceIte, h6]
    · rw [if_neg (by unfold isL; simpa using hL)] at hrun
      simp (disch := first | assumption | omega) only [go_sem, Nat.reduceEqDiff, ↓reduceIte, hL]
      refine fin i _ hi hil (by omega) ?_ ?_ ?_ ?_ ?_ <;> simp (disch := first | assumption | omega) only [go_sem, reduceCtorEq, Nat.reduceEqDiff, ↓reduceIte, h0, h2, h4, h5, h6]
  · have e : l.drop i = [] := List.drop_eq_nil_of_le (by omega)
    rw [e, runL] at hrun
    simp (disch := first | assumption | omega) only [go_sem, reduceCtorEq, Nat.reduceEqDiff, ↓reduceIte, h0, h5]
    refine fin i _ hi hil (by omega) ?_ ?_ ?_ ?_ ?_ <;> simp (disch := first | assumption | omega) only [go_sem, reduceCtorEq, Nat.reduceEqDiff, ↓reduceIte, h0, h2, h4, h5, h6]
def readP (l : List UInt8) : Ref × Int := if atP l 0 = 36 then readR l 1 true else readR l 0 false
theorem read_ok (l : List UInt8) (hl : l.length ≤ 9223372036854775000) : Pure Tryz.prog 107 [.str l] (.tuple [refAV (readP l).1, .int .i64 (readP l).2]) := by
  intro σ
  obtain ⟨q, hq⟩ : ∃ q, readP l = q := ⟨_, rfl⟩
  rw [hq]
  unfold readP at hq
  refine a107 (by simp) ?_
  obtain ⟨F, hF⟩ : ∃ F, F = ACode.wp Tryz.prog c107_57 := ⟨_, rfl⟩
  obtain ⟨F8, hF8⟩ : ∃ F, F = ACode.wp Tryz.prog c107_58 := ⟨_, rfl⟩
  obtain ⟨F9, hF9⟩ : ∃ F, F = ACode.wp Tryz.prog c107_59 := ⟨_, rfl⟩
  obtain ⟨F0, hF0⟩ : ∃ F, F = ACode.wp Tryz.prog c107_60 := ⟨_, rfl⟩
  rw [c107_61_wp, wp_seq', ← hF0]
  simp (disch := first | assumption | omega) only [go_sem]
  refine allocC_by fun b0 hb0 => ?_
  simp (disch := first | assumption | omega) only [go_sem]
  rw [hF0, c107_60_wp, wp_seq', ← hF9]
  simp (disch := first | assumption | omega) only [go_sem]
  refine allocC_by fun b1 hb1 => ?_
  obtain ⟨n1, n2, hb3⟩ := set_none hb1
  simp (disch := first | assumption | omega) only [go_sem]
  rw [hF9, c107_59_wp, wp_seq', ← hF8]
  simp (disch := first | assumption | omega) only [go_sem]
  rw [hF8, c107_58_wp, wp_seq', ← hF]
  by_cases hlt : 0 < l.length
  · have hidx : l[0]? = some (l[0]'hlt) := List.getElem?_eq_getElem hlt
    obtain ⟨c, hc⟩ : ∃ c, l[0]'hlt = c := ⟨_, rfl⟩
    rw [hc] at hidx
    have hat : atP l 0 = c.toNat := by unfold atP; rw [hidx]
    have hlt' : (0 : Int) < l.length := by omega
    rw [hat] at hq
    by_cases h36 : (c.toNat : Int) = 36
    · rw [if_pos h36] at hq
      simp (disch := first | assumption | omega) only [go_sem, reduceCtorEq, Nat.reduceEqDiff, Nat.reduceAdd, Nat.reduceLeDiff, ↓reduceIte, Int.reduceAdd, Bool.true_and, hlt', hidx, h36, ASt.set_set]
      rw [hF]
      refine read1 l hl σ b0 b1 hb0 hb3 n2 1 (by omega) true q hq _ ?_ ?_ ?_ ?_ <;> simp (disch := first | assumption | omega) only [go_sem, reduceCtorEq, Nat.reduceEqDiff, ↓reduceIte]
    · rw [if_neg h36] at hq
      simp (disch := first | assumption | omega) only [go_sem, reduceCtorEq, Nat.reduceEqDiff, ↓reduceIte, hlt', hidx, h36]
      rw [hF]
      refine read1 l hl σ b0 b1 hb0 hb3 n2 0 (by omega) false q hq _ ?_ ?_ ?_ ?_ <;> simp (disch := first | assumption | omega) only [go_sem, reduceCtorEq, Nat.reduceEqDiff, ↓reduceIte]
  · have hat : atP l 0 = 0 := by unfold atP; rw [List.getElem?_eq_none (by omega)]
    have hlt' : ¬ (0 : Int) < l.length := by omega
    rw [hat, if_neg (by omega)] at hq
    simp (disch := first | assumption | omega) only [go_sem, reduceCtorEq, Nat.reduceEqDiff, ↓reduceIte, hlt']
    rw [hF]
    refine read1 l hl σ b0 b1 hb0 hb3 n2 0 (by omega) false q hq _ ?_ ?_ ?_ ?_ <;> simp (disch := first | assumption | omega) only [go_sem, reduceCtorEq, Nat.reduceEqDiff, ↓reduceIte]
end Go.A
namespace Go.A
open Go.Proofs
/-! 88: tabular/addr.Parse -/
def c88_0 : ACode := .ops [
 ⟨some 2, none, .e (.alloc [(.int .i64 0), (.int .i64 0), (.bool false), (.bool false)]), []⟩,
 ⟨some 3, none, .q (.mv (.v (.bool false))), []⟩]
def c88_1 : ACode := .ops [
 ⟨some 7, none, .q (.mv (.t 0)), []⟩,
 ⟨some 8, none, .e (.call 107 [(.t 7)]), []⟩,
 ⟨some 6, none, .q (.mv (.t 8)), []⟩,
 ⟨some 9, none, .q (.ext 0 (.t 6)), []⟩,
 ⟨some 10, none, .q (.ext 1 (.t 6)), []⟩,
 ⟨some 4, none, .e (.alloc [(.int .i64 0), (.int .i64 0), (.bool false), (.bool false)]), []⟩,
 ⟨none, none, .e (.store 4 (.t 4) (.t 9)), []⟩,
 ⟨some 5, none, .q (.mv (.t 10)), []⟩]
def c88_2 : ACode := .ops [
 ⟨some 11, none, .q (.mv (.t 5)), []⟩,
 ⟨some 12, none, .q (.bin .eql (.t 11) (.v (.int .i64 0))), []⟩,
 ⟨some 13, none, .q (.mv (.t 12)), []⟩,
 ⟨some 14, some (13, false), .q (.mv (.t 5)), []⟩,
 ⟨some 15, some (13, false), .q (.mv (.t 0)), []⟩,
 ⟨some 16, some (13, false), .q (.lenS (.t 15)), []⟩,
 ⟨some 17, some (13, false), .q (.bin .lss (.t 14) (.t 16)), []⟩,
 ⟨some 18, none, .q (.pick (.t 13) (.v (.bool true)) (.t 17)), []⟩]
def c88_3 : ACode := .ops [
 ⟨some 19, none, .q (.build [(.int .i64 0), (.int .i64 0), (.bool false), (.bool false)] []), []⟩,
 ⟨none, none, .e (.store 4 (.t 2) (.t 19)), []⟩,
 ⟨some 3, none, .q (.mv (.v (.bool false))), []⟩]
def c88_4 : ACode := .seq c88_3 .ret
def c88_5 : ACode := .cond (.t 18) c88_4 .skip
def c88_6 : ACode := .seq c88_2 c88_5
def c88_7 : ACode := .ops [
 ⟨some 20, none, .q (.ld (some 4) (.t 4)), []⟩,
 ⟨none, none, .e (.store 4 (.t 2) (.t 20)), []⟩,
 ⟨some 3, none, .q (.mv (.v (.bool true))), []⟩]
def c88_8 : ACode := .seq c88_7 .ret
def c88_9 : ACode := .seq c88_6 c88_8
def c88_10 : ACode := .seq c88_1 c88_9
def c88_11 : ACode := .seq c88_0 c88_10
@[go_sem] def c88_0_wp := wp_of c88_0.eq_1
@[go_sem] def c88_1_wp := wp_of c88_1.eq_1
@[go_sem] def c88_2_wp := wp_of c88_2.eq_1
@[go_sem] def c88_3_wp := wp_of c88_3.eq_1
@[go_sem] def c88_4_wp := wp_of c88_4.eq_1
@[go_sem] def c88_5_wp := wp_of c88_5.eq_1
@[go_sem] def c88_6_wp := wp_of c88_6.eq_1
@[go_sem] def c88_7_wp := wp_of c88_7.eq_1
@[go_sem] def c88_8_wp := wp_of c88_8.eq_1
@[go_sem] def c88_9_wp := wp_of c88_9.eq_1
@[go_sem] def c88_10_wp := wp_of c88_10.eq_1
@[go_sem] def c88_11_wp := wp_of c88_11.eq_1
def c88 : AFn := ⟨21, [.c 2 (some 4), .t 3], c88_11⟩
theorem c88_ok : compF Tryz.prog Tryz.f88 = some c88 := by kernel_rfl
theorem a88 {args : List AV} {σ : ASt} {R : AV → ASt → Prop} (hl : args.length ≤ 21) (h : c88_11.wp Tryz.prog (RetQ [.c 2 (some 4), .t 3] R) (init args) σ) : ACalls Tryz.prog 88 args σ R := acalls_of Tryz.func88 c88_ok hl h
end Go.A
namespace Go.A
open Go.Proofs
def parseP (l : List UInt8) : Ref × Bool := if (readP l).2 = 0 ∨ (readP l).2 < l.length then (.zero, false) else ((readP l).1, true)
theorem parse_ok (l : List UInt8) (hl : l.length ≤ 9223372036854775000) : Pure Tryz.prog 88 [.str l] (.tuple [refAV (parseP l).1, .bool (parseP l).2]) := by
  intro σ
  obtain ⟨q, hq⟩ : ∃ q, parseP l = q := ⟨_, rfl⟩
  rw [hq]
  unfold parseP at hq
  obtain ⟨R, hR⟩ : ∃ R, readP l = R := ⟨_, rfl⟩
  rw [hR] at hq
  obtain ⟨⟨row, col, ar, ac⟩, n⟩ := R
  dsimp only at hq
  refine a88 (by simp) ?_
  simp (disch := first | assumption | omega) only [go_sem]
  refine allocC_by fun b0 hb0 => ?_
  simp (disch := first | assumption | omega) only [go_sem, reduceCtorEq, ↓reduceIte]
  refine (read_ok l hl).use ?_
  rw [hR]
  simp (disch := first | assumption | omega) only [go_sem, Nat.reduceEqDiff, ↓reduceIte, refAV]
  refine allocC_by fun b1 hb1 => ?_
  obtain ⟨n1, n2, hb3⟩ := set_none hb1
  repeat' (first | (simp (disch := first | assumption | omega) only [go_sem, reduceCtorEq, Nat.reduceEqDiff, Nat.reduceAdd, Nat.reduceLeDiff, ↓reduceIte, Bool.true_and]) | with_reducible refine gC_d (fun h => ?_) (fun h => ?_) | with_reducible refine gC_dn (fun h => ?_) (fun h => ?_) | with_reducible refine condC_d (fun h => ?_) (fun h => ?_) | with_reducible refine condC_n (fun h => ?_) (fun h => ?_) | with_reducible refine condC_b (fun h => ?_) (fun h => ?_) | with_reducible refine boxC_by ?_ fun b hb => ?_)
  all_goals first
    | (rw [if_pos (by omega)] at hq
       subst hq
       exact retC_by (by repeat' (first | exact Drop.refl _ | with_reducible refine Drop.off ?_ (by assumption))) (.refl _) ⟨rfl, rfl⟩)
    | (rw [if_neg (by omega)] at hq
       subst hq
       exact retC_by (by repeat' (first | exact Drop.refl _ | with_reducible refine Drop.off ?_ (by assumption))) (.refl _) ⟨rfl, rfl⟩)
def areaAV (a b : Ref) : AV := .agg [.int .i64 a.row, .int .i64 a.col, .bool a.absRow, .bool a.absCol, .int .i64 b.row, .int .i64 b.col, .bool b.absRow, .bool b.absCol]
end Go.A
namespace Go.A
open Go.Proofs
/-! 9: tabular/tabularlaw01.Cut -/
def c9_0 : ACode := .ops [
 ⟨some 4, none, .q (.mv (.v (.str []))), []⟩]
def c9_1 : ACode := .ops [
 ⟨some 5, none, .q (.mv (.t 0)), []⟩,
 ⟨some 6, none, .q (.lenS (.t 5)), []⟩,
 ⟨some 7, none, .q (.mv (.t 1)), []⟩,
 ⟨some 8, none, .q (.bin .gtr (.t 6) (.t 7)), []⟩]
def c9_2 : ACode := .ops [
 ⟨some 9, none, .q (.mv (.t 0)), []⟩,
 ⟨some 10, none, .q (.mv (.t 1)), []⟩,
 ⟨some 11, none, .q (.slto (true, 0) (.t 9) (.t 10)), []⟩,
 ⟨some 4, none, .q (.mv (.t 11)), []⟩]
def c9_3 : ACode := .seq c9_2 .ret
def c9_4 : ACode := .cond (.t 8) c9_3 .skip
def c9_5 : ACode := .seq c9_1 c9_4
def c9_6 : ACode := .ops [
 ⟨some 12, none, .q (.mv (.t 0)), []⟩,
 ⟨some 4, none, .q (.mv (.t 12)), []⟩]
def c9_7 : ACode := .seq c9_6 .ret
def c9_8 : ACode := .seq c9_5 c9_7
def c9_9 : ACode := .seq c9_0 c9_8
def c9 : AFn := ⟨13, [.t 4], c9_9⟩
theorem c9_ok : compF Tryz.prog Tryz.f9 = some c9 := by kernel_rfl
theorem a9 {args : List AV} {σ : ASt} {R : AV → ASt → Prop} (hl : args.length ≤ 13) (h : c9_9.wp Tryz.prog (RetQ [.t 4] R) (init args) σ) : ACalls Tryz.prog 9 args σ R := acalls_of Tryz.func9 c9_ok hl h
/-! 30: (tabular/deci.Dec).Text -/
def c30_0 : ACode := .ops [
 ⟨some 2, none, .q (.mv (.v (.str []))), []⟩]
def c30_1 : ACode := .ops [
 ⟨some 6, none, .q (.mv (.t 0)), []⟩,
 ⟨some 7, none, .e (.call 54 [(.t 6)]), []⟩,
 ⟨some 3, none, .q (.mv (.t 7)), []⟩]
def c30_2 : ACode := .ops [
 ⟨some 8, none, .q (.mv (.t 3)), []⟩,
 ⟨some 9, none, .q (.bin .quo (.t 8) (.v (.int .u64 10000))), []⟩,
 ⟨some 10, none, .e (.call 55 [(.t 9), (.v (.int .i64 10))]), []⟩,
 ⟨some 4, none, .q (.mv (.t 10)), []⟩]
def c30_3 : ACode := .ops [
 ⟨some 11, none, .q (.mv (.t 3)), []⟩,
 ⟨some 12, none, .q (.bin .rem (.t 11) (.v (.int .u64 10000))), []⟩,
 ⟨some 5, none, .q (.mv (.t 12)), []⟩]
def c30_4 : ACode := .ops [
 ⟨some 13, none, .q (.mv (.t 5)), []⟩,
 ⟨some 14, none, .q (.bin .gtr (.t 13) (.v (.int .u64 0))), []⟩]
def c30_5 : ACode := .ops [
 ⟨some 15, none, .q (.mv (.t 4)), []⟩,
 ⟨some 16, none, .q (.mv (.t 5)), []⟩,
 ⟨some 17, none, .q (.bin .add (.v (.int .u64 10000)) (.t 16)), []⟩,
 ⟨some 18, none, .e (.call 55 [(.t 17), (.v (.int .i64 10))]), []⟩,
 ⟨some 19, none, .q (.slfrom (true, 0) (.t 18) (.v (.int .i64 1))), []⟩,
 ⟨some 20, none, .e (.call 56 [(.t 19), (.v (.str [48]))]), []⟩,
 ⟨some 21, none, .q (.bin .add (.v (.str [46])) (.t 20)), []⟩,
 ⟨some 22, none, .q (.bin .add (.t 15) (.t 21)), []⟩,
 ⟨some 4, none, .q (.mv (.t 22)), []⟩]
def c30_6 : ACode := .cond (.t 14) c30_5 .skip
def c30_7 : ACode := .seq c30_4 c30_6
def c30_8 : ACode := .seq c30_3 c30_7
def c30_9 : ACode := .ops [
 ⟨some 23, none, .q (.mv (.t 0)), []⟩,
 ⟨some 24, none, .q (.bin .lss (.t 23) (.v (.int .i64 0))), []⟩]
def c30_10 : ACode := .ops [
 ⟨some 25, none, .q (.mv (.t 4)), []⟩,
 ⟨some 26, none, .q (.bin .add (.v (.str [45])) (.t 25)), []⟩,
 ⟨some 2, none, .q (.mv (.t 26)), []⟩]
def c30_11 : ACode := .seq c30_10 .ret
def c30_12 : ACode := .cond (.t 24) c30_11 .skip
def c30_13 : ACode := .seq c30_9 c30_12
def c30_14 : ACode := .ops [
 ⟨some 27, none, .q (.mv (.t 4)), []⟩,
 ⟨some 2, none, .q (.mv (.t 27)), []⟩]
def c30_15 : ACode := .seq c30_14 .ret
def c30_16 : ACode := .seq c30_13 c30_15
def c30_17 : ACode := .seq c30_8 c30_16
def c30_18 : ACode := .seq c30_2 c30_17
def c30_19 : ACode := .seq c30_1 c30_18
def c30_20 : ACode := .seq c30_0 c30_19
@[go_sem] def c30_0_wp := wp_of c30_0.eq_1
@[go_sem] def c30_1_wp := wp_of c30_1.eq_1
@[go_sem] def c30_2_wp := wp_of c30_2.eq_1
@[go_sem] def c30_3_wp := wp_of c30_3.eq_1
@[go_sem] def c30_4_wp := wp_of c30_4.eq_1
@[go_sem] def c30_5_wp := wp_of c30_5.eq_1
@[go_sem] def c30_6_wp := wp_of c30_6.eq_1
@[go_sem] def c30_7_wp := wp_of c30_7.eq_1
@[go_sem] def c30_8_wp := wp_of c30_8.eq_1
@[go_sem] def c30_9_wp := wp_of c30_9.eq_1
@[go_sem] def c30_10_wp := wp_of c30_10.eq_1
@[go_sem] def c30_11_wp := wp_of c30_11.eq_1
@[go_sem] def c30_12_wp := wp_of c30_12.eq_1
@[go_sem] def c30_13_wp := wp_of c30_13.eq_1
@[go_sem] def c30_14_wp := wp_of c30_14.eq_1
@[go_sem] def c30_15_wp := wp_of c30_15.eq_1
@[go_sem] def c30_16_wp := wp_of c30_16.eq_1
@[go_sem] def c30_17_wp := wp_of c30_17.eq_1
@[go_sem] def c30_18_wp := wp_of c30_18.eq_1
@[go_sem] def c30_19_wp := wp_of c30_19.eq_1
@[go_sem] def c30_20_wp := wp_of c30_20.eq_1
def c30 : AFn := ⟨28, [.t 2], c30_20⟩
theorem c30_ok : compF Tryz.prog Tryz.f30 = some c30 := by kernel_rfl
theorem a30 {args : List AV} {σ : ASt} {R : AV → ASt → Prop} (hl : args.length ≤ 28) (h : c30_20.wp Tryz.prog (RetQ [.t 2] R) (init args) σ) : ACalls Tryz.prog 30 args σ R := acalls_of Tryz.func30 c30_ok hl h
/-! 54: tabular/deci.size -/
def c54_0 : ACode := .ops [
 ⟨some 2, none, .q (.mv (.v (.int .u64 0))), []⟩]
def c54_1 : ACode := .ops [
 ⟨some 3, none, .q (.mv (.t 0)), []⟩,
 ⟨some 4, none, .q (.bin .lss (.t 3) (.v (.int .i64 0))), []⟩]
def c54_2 : ACode := .ops [
 ⟨some 5, none, .q (.mv (.t 0)), []⟩,
 ⟨some 6, none, .q (.un .neg (.t 5)), []⟩,
 ⟨some 7, none, .q (.conv .u64 (.t 6)), []⟩,
 ⟨some 2, none, .q (.mv (.t 7)), []⟩]
def c54_3 : ACode := .seq c54_2 .ret
def c54_4 : ACode := .cond (.t 4) c54_3 .skip
def c54_5 : ACode := .seq c54_1 c54_4
def c54_6 : ACode := .ops [
 ⟨some 8, none, .q (.mv (.t 0)), []⟩,
 ⟨some 9, none, .q (.conv .u64 (.t 8)), []⟩,
 ⟨some 2, none, .q (.mv (.t 9)), []⟩]
def c54_7 : ACode := .seq c54_6 .ret
def c54_8 : ACode := .seq c54_5 c54_7
def c54_9 : ACode := .seq c54_0 c54_8
@[go_sem] def c54_0_wp := wp_of c54_0.eq_1
@[go_sem] def c54_1_wp := wp_of c54_1.eq_1
@[go_sem] def c54_2_wp := wp_of c54_2.eq_1
@[go_sem] def c54_3_wp := wp_of c54_3.eq_1
@[go_sem] def c54_4_wp := wp_of c54_4.eq_1
@[go_sem] def c54_5_wp := wp_of c54_5.eq_1
@[go_sem] def c54_6_wp := wp_of c54_6.eq_1
@[go_sem] def c54_7_wp := wp_of c54_7.eq_1
@[go_sem] def c54_8_wp := wp_of c54_8.eq_1
@[go_sem] def c54_9_wp := wp_of c54_9.eq_1
def c54 : AFn := ⟨10, [.t 2], c54_9⟩
theorem c54_ok : compF Tryz.prog Tryz.f54 = some c54 := by kernel_rfl
theorem a54 {args : List AV} {σ : ASt} {R : AV → ASt → Prop} (hl : args.length ≤ 10) (h : c54_9.wp Tryz.prog (RetQ [.t 2] R) (init args) σ) : ACalls Tryz.prog 54 args σ R := acalls_of Tryz.func54 c54_ok hl h
/-! 55: strconv.FormatUint -/
def c55_0 : ACode := .ops [
 ⟨some 4, none, .q (.mv (.v (.str []))), []⟩]
def c55_1 : ACode := .ops [
 ⟨some 5, none, .q (.mv (.t 0)), []⟩,
 ⟨some 6, none, .q (.mv (.t 1)), []⟩,
 ⟨some 7, none, .e (.call 77 [(.t 5), (.t 6)]), []⟩,
 ⟨some 4, none, .q (.mv (.t 7)), []⟩]
def c55_2 : ACode := .seq c55_1 .ret
def c55_3 : ACode := .seq c55_0 c55_2
@[go_sem] def c55_0_wp := wp_of c55_0.eq_1
@[go_sem] def c55_1_wp := wp_of c55_1.eq_1
@[go_sem] def c55_2_wp := wp_of c55_2.eq_1
@[go_sem] def c55_3_wp := wp_of c55_3.eq_1
def c55 : AFn := ⟨8, [.t 4], c55_3⟩
theorem c55_ok : compF Tryz.prog Tryz.f55 = some c55 := by kernel_rfl
theorem a55 {args : List AV} {σ : ASt} {R : AV → ASt → Prop} (hl : args.length ≤ 8) (h : c55_3.wp Tryz.prog (RetQ [.t 4] R) (init args) σ) : ACalls Tryz.prog 55 args σ R := acalls_of Tryz.func55 c55_ok hl h
/-! 58: (tabular/deci.Dec).Whole -/
def c58_0 : ACode := .ops [
 ⟨some 2, none, .q (.mv (.v (.int .i64 0))), []⟩]
def c58_1 : ACode := .ops [
 ⟨some 3, none, .q (.mv (.t 0)), []⟩,
 ⟨some 4, none, .q (.bin .quo (.t 3) (.v (.int .i64 10000))), []⟩,
 ⟨some 2, none, .q (.mv (.t 4)), []⟩]
def c58_2 : ACode := .seq c58_1 .ret
def c58_3 : ACode := .seq c58_0 c58_2
@[go_sem] def c58_0_wp := wp_of c58_0.eq_1
@[go_sem] def c58_1_wp := wp_of c58_1.eq_1
@[go_sem] def c58_2_wp := wp_of c58_2.eq_1
@[go_sem] def c58_3_wp := wp_of c58_3.eq_1
def c58 : AFn := ⟨5, [.t 2], c58_3⟩
theorem c58_ok : compF Tryz.prog Tryz.f58 = some c58 := by kernel_rfl
theorem a58 {args : List AV} {σ : ASt} {R : AV → ASt → Prop} (hl : args.length ≤ 5) (h : c58_3.wp Tryz.prog (RetQ [.t 2] R) (init args) σ) : ACalls Tryz.prog 58 args σ R := acalls_of Tryz.func58 c58_ok hl h
/-! 86: strings.Cut -/
def c86_0 : ACode := .ops [
 ⟨some 4, none, .q (.mv (.v (.str []))), []⟩,
 ⟨some 5, none, .q (.mv (.v (.str []))), []⟩,
 ⟨some 6, none, .q (.mv (.v (.bool false))), []⟩]
def c86_1 : ACode := .ops [
 ⟨some 7, none, .q (.mv (.t 0)), []⟩,
 ⟨some 8, none, .q (.mv (.t 1)), []⟩,
 ⟨some 9, none, .e (.call 106 [(.t 7), (.t 8)]), []⟩,
 ⟨some 10, none, .q (.ext 0 (.t 9)), []⟩,
 ⟨some 11, none, .q (.ext 1 (.t 9)), []⟩,
 ⟨some 12, none, .q (.ext 2 (.t 9)), []⟩,
 ⟨some 4, none, .q (.mv (.t 10)), []⟩,
 ⟨some 5, none, .q (.mv (.t 11)), []⟩,
 ⟨some 6, none, .q (.mv (.t 12)), []⟩]
def c86_2 : ACode := .seq c86_1 .ret
def c86_3 : ACode := .seq c86_0 c86_2
@[go_sem] def c86_0_wp := wp_of c86_0.eq_1
@[go_sem] def c86_1_wp := wp_of c86_1.eq_1
@[go_sem] def c86_2_wp := wp_of c86_2.eq_1
@[go_sem] def c86_3_wp := wp_of c86_3.eq_1
def c86 : AFn := ⟨13, [.t 4, .t 5, .t 6], c86_3⟩
theorem c86_ok : compF Tryz.prog Tryz.f86 = some c86 := by kernel_rfl
theorem a86 {args : List AV} {σ : ASt} {R : AV → ASt → Prop} (hl : args.length ≤ 13) (h : c86_3.wp Tryz.prog (RetQ [.t 4, .t 5, .t 6] R) (init args) σ) : ACalls Tryz.prog 86 args σ R := acalls_of Tryz.func86 c86_ok hl h
/-! 92: tabular/deci.Parse -/
def c92_0 : ACode := .ops [
 ⟨some 2, none, .q (.mv (.v (.int .i64 0))), []⟩,
 ⟨some 3, none, .q (.mv (.v (.bool false))), []⟩]
def c92_1 : ACode := .ops [
 ⟨some 13, none, .q (.mv (.t 0)), []⟩,
 ⟨some 14, none, .e (.call 110 [(.t 13), (.v (.str [45]))]), []⟩,
 ⟨some 12, none, .q (.mv (.t 14)), []⟩,
 ⟨some 15, none, .q (.ext 0 (.t 12)), []⟩,
 ⟨some 16, none, .q (.ext 1 (.t 12)), []⟩,
 ⟨some 4, none, .q (.mv (.t 15)), []⟩,
 ⟨some 5, none, .q (.mv (.t 16)), []⟩]
def c92_2 : ACode := .ops [
 ⟨some 18, none, .q (.mv (.t 4)), []⟩,
 ⟨some 19, none, .e (.call 86 [(.t 18), (.v (.str [46]))]), []⟩,
 ⟨some 17, none, .q (.mv (.t 19)), []⟩,
 ⟨some 20, none, .q (.ext 0 (.t 17)), []⟩,
 ⟨some 21, none, .q (.ext 1 (.t 17)), []⟩,
 ⟨some 22, none, .q (.ext 2 (.t 17)), []⟩,
 ⟨some 6, none, .q (.mv (.t 20)), []⟩,
 ⟨some 7, none, .q (.mv (.t 21)), []⟩,
 ⟨some 8, none, .q (.mv (.t 22)), []⟩]
def c92_3 : ACode := .ops [
 ⟨some 23, none, .q (.mv (.t 6)), []⟩,
 ⟨some 24, none, .q (.bin .eql (.t 23) (.v (.str []))), []⟩,
 ⟨some 25, none, .q (.mv (.t 24)), []⟩,
 ⟨some 26, some (25, false), .q (.mv (.t 8)), []⟩,
 ⟨some 27, some (25, false), .q (.mv (.t 26)), []⟩,
 ⟨some 28, some (27, true), .q (.mv (.t 7)), []⟩,
 ⟨some 29, some (27, true), .q (.bin .eql (.t 28) (.v (.str []))), []⟩,
 ⟨some 30, some (27, true), .q (.mv (.t 29)), []⟩,
 ⟨some 31, some (30, false), .q (.mv (.t 7)), []⟩,
 ⟨some 32, some (30, false), .q (.lenS (.t 31)), []⟩,
 ⟨some 33, some (30, false), .q (.bin .gtr (.t 32) (.v (.int .i64 4))), []⟩,
 ⟨some 34, some (27, true), .q (.pick (.t 30) (.v (.bool true)) (.t 33)), []⟩,
 ⟨some 35, some (25, false), .q (.pick (.t 27) (.t 34) (.v (.bool false))), []⟩,
 ⟨some 36, none, .q (.pick (.t 25) (.v (.bool true)) (.t 35)), []⟩]
def c92_4 : ACode := .ops [
 ⟨some 2, none, .q (.mv (.v (.int .i64 0))), []⟩,
 ⟨some 3, none, .q (.mv (.v (.bool false))), []⟩]
def c92_5 : ACode := .seq c92_4 .ret
def c92_6 : ACode := .cond (.t 36) c92_5 .skip
def c92_7 : ACode := .seq c92_3 c92_6
def c92_8 : ACode := .ops [
 ⟨some 9, none, .q (.mv (.v (.int .u64 0))), []⟩]
def c92_9 : ACode := .ops [
 ⟨some 37, none, .q (.mv (.t 6)), []⟩,
 ⟨some 38, none, .q (.mv (.t 7)), []⟩,
 ⟨some 39, none, .q (.bin .add (.t 37) (.t 38)), []⟩,
 ⟨some 40, none, .q (.mv (.t 7)), []⟩,
 ⟨some 41, none, .q (.lenS (.t 40)), []⟩,
 ⟨some 42, none, .q (.slfrom (true, 0) (.v (.str [48, 48, 48, 48])) (.t 41)), []⟩,
 ⟨some 43, none, .q (.bin .add (.t 39) (.t 42)), []⟩,
 ⟨some 44, none, .e (.s2b (.t 43)), []⟩,
 ⟨some 45, none, .q (.len (.t 44)), []⟩,
 ⟨some 46, none, .q (.mv (.v (.int .i64 0))), []⟩]
def c92_10 : ACode := .ops [
 ⟨some 47, none, .q (.bin .lss (.t 46) (.t 45)), []⟩]
def c92_11 : ACode := .cond (.t 47) .skip (.exit 0)
def c92_12 : ACode := .ops [
 ⟨some 48, none, .q (.ia 1 (.t 44) (.t 46)), []⟩,
 ⟨some 49, none, .q (.ld none (.t 48)), []⟩,
 ⟨some 11, none, .q (.mv (.t 49)), []⟩]
def c92_13 : ACode := .ops [
 ⟨some 50, none, .q (.mv (.t 11)), []⟩,
 ⟨some 51, none, .q (.bin .lss (.t 50) (.v (.int .u8 48))), []⟩,
 ⟨some 52, none, .q (.mv (.t 51)), []⟩,
 ⟨some 53, some (52, false), .q (.mv (.t 11)), []⟩,
 ⟨some 54, some (52, false), .q (.bin .gtr (.t 53) (.v (.int .u8 57))), []⟩,
 ⟨some 55, none, .q (.pick (.t 52) (.v (.bool true)) (.t 54)), []⟩,
 ⟨some 56, none, .q (.mv (.t 55)), []⟩,
 ⟨some 57, some (56, false), .q (.mv (.t 9)), []⟩,
 ⟨some 58, some (56, false), .q (.bin .gtr (.t 57) (.v (.int .u64 99999999999999999))), []⟩,
 ⟨some 59, none, .q (.pick (.t 56) (.v (.bool true)) (.t 58)), []⟩]
def c92_14 : ACode := .ops [
 ⟨some 2, none, .q (.mv (.v (.int .i64 0))), []⟩,
 ⟨some 3, none, .q (.mv (.v (.bool false))), []⟩]
def c92_15 : ACode := .seq c92_14 .ret
def c92_16 : ACode := .cond (.t 59) c92_15 .skip
def c92_17 : ACode := .seq c92_13 c92_16
def c92_18 : ACode := .ops [
 ⟨some 60, none, .q (.mv (.t 9)), []⟩,
 ⟨some 61, none, .q (.bin .mul (.v (.int .u64 10)) (.t 60)), []⟩,
 ⟨some 62, none, .q (.mv (.t 11)), []⟩,
 ⟨some 63, none, .q (.bin .sub (.t 62) (.v (.int .u8 48))), []⟩,
 ⟨some 64, none, .q (.conv .u64 (.t 63)), []⟩,
 ⟨some 65, none, .q (.bin .add (.t 61) (.t 64)), []⟩,
 ⟨some 9, none, .q (.mv (.t 65)), []⟩]
def c92_19 : ACode := .seq c92_17 c92_18
def c92_20 : ACode := .seq c92_12 c92_19
def c92_21 : ACode := .block 1 c92_20
def c92_22 : ACode := .ops [
 ⟨some 66, none, .q (.bin .add (.t 46) (.v (.int .i64 1))), []⟩,
 ⟨some 46, none, .q (.mv (.t 66)), []⟩]
def c92_23 : ACode := .seq c92_21 c92_22
def c92_24 : ACode := .seq c92_11 c92_23
def c92_25 : ACode := .seq c92_10 c92_24
def c92_26 : ACode := .loop c92_25
def c92_27 : ACode := .block 0 c92_26
def c92_28 : ACode := .seq c92_9 c92_27
def c92_29 : ACode := .ops [
 ⟨some 67, none, .q (.mv (.t 5)), []⟩,
 ⟨some 68, none, .q (.mv (.t 9)), []⟩,
 ⟨some 69, none, .e (.call 111 [(.t 67), (.v (.int .u64 0)), (.t 68)]), []⟩,
 ⟨some 70, none, .q (.ext 0 (.t 69)), []⟩,
 ⟨some 71, none, .q (.ext 1 (.t 69)), []⟩,
 ⟨some 2, none, .q (.mv (.t 70)), []⟩,
 ⟨some 3, none, .q (.mv (.t 71)), []⟩]
def c92_30 : ACode := .seq c92_29 .ret
def c92_31 : ACode := .seq c92_28 c92_30
def c92_32 : ACode := .seq c92_8 c92_31
def c92_33 : ACode := .seq c92_7 c92_32
def c92_34 : ACode := .seq c92_2 c92_33
def c92_35 : ACode := .seq c92_1 c92_34
def c92_36 : ACode := .seq c92_0 c92_35
@[go_sem] def c92_0_wp := wp_of c92_0.eq_1
@[go_sem] def c92_1_wp := wp_of c92_1.eq_1
@[go_sem] def c92_2_wp := wp_of c92_2.eq_1
@[go_sem] def c92_3_wp := wp_of c92_3.eq_1
@[go_sem] def c92_4_wp := wp_of c92_4.eq_1
@[go_sem] def c92_5_wp := wp_of c92_5.eq_1
@[go_sem] def c92_6_wp := wp_of c92_6.eq_1
@[go_sem] def c92_7_wp := wp_of c92_7.eq_1
@[go_sem] def c92_8_wp := wp_of c92_8.eq_1
@[go_sem] def c92_9_wp := wp_of c92_9.eq_1
@[go_sem] def c92_10_wp := wp_of c92_10.eq_1
@[go_sem] def c92_11_wp := wp_of c92_11.eq_1
@[go_sem] def c92_12_wp := wp_of c92_12.eq_1
@[go_sem] def c92_13_wp := wp_of c92_13.eq_1
@[go_sem] def c92_14_wp := wp_of c92_14.eq_1
@[go_sem] def c92_15_wp := wp_of c92_15.eq_1
@[go_sem] def c92_16_wp := wp_of c92_16.eq_1
@[go_sem] def c92_17_wp := wp_of c92_17.eq_1
@[go_sem] def c92_18_wp := wp_of c92_18.eq_1
@[go_sem] def c92_19_wp := wp_of c92_19.eq_1
@[go_sem] def c92_20_wp := wp_of c92_20.eq_1
@[go_sem] def c92_21_wp := wp_of c92_21.eq_1
@[go_sem] def c92_22_wp := wp_of c92_22.eq_1
@[go_sem] def c92_23_wp := wp_of c92_23.eq_1
@[go_sem] def c92_24_wp := wp_of c92_24.eq_1
@[go_sem] def c92_25_wp := wp_of c92_25.eq_1
@[go_sem] def c92_26_wp := wp_of c92_26.eq_1
@[go_sem] def c92_27_wp := wp_of c92_27.eq_1
@[go_sem] def c92_28_wp := wp_of c92_28.eq_1
@[go_sem] def c92_29_wp := wp_of c92_29.eq_1
@[go_sem] def c92_30_wp := wp_of c92_30.eq_1
@[go_sem] def c92_31_wp := wp_of c92_31.eq_1
@[go_sem] def c92_32_wp := wp_of c92_32.eq_1
@[go_sem] def c92_33_wp := wp_of c92_33.eq_1
@[go_sem] def c92_34_wp := wp_of c92_34.eq_1
@[go_sem] def c92_35_wp := wp_of c92_35.eq_1
@[go_sem] def c92_36_wp := wp_of c92_36.eq_1
def c92 : AFn := ⟨72, [.t 2, .t 3], c92_36⟩
theorem c92_ok : compF Tryz.prog Tryz.f92 = some c92 := by kernel_rfl
theorem a92 {args : List AV} {σ : ASt} {R : AV → ASt → Prop} (hl : args.length ≤ 72) (h : c92_36.wp Tryz.prog (RetQ [.t 2, .t 3] R) (init args) σ) : ACalls Tryz.prog 92 args σ R := acalls_of Tryz.func92 c92_ok hl h
/-! 106: internal/stringslite.Cut -/
def c106_0 : ACode := .ops [
 ⟨some 4, none, .q (.mv (.v (.str []))), []⟩,
 ⟨some 5, none, .q (.mv (.v (.str []))), []⟩,
 ⟨some 6, none, .q (.mv (.v (.bool false))), []⟩]
def c106_1 : ACode := .ops [
 ⟨some 8, none, .q (.mv (.t 0)), []⟩,
 ⟨some 9, none, .q (.mv (.t 1)), []⟩,
 ⟨some 10, none, .e (.call 109 [(.t 8), (.t 9)]), []⟩,
 ⟨some 7, none, .q (.mv (.t 10)), []⟩]
def c106_2 : ACode := .ops [
 ⟨some 11, none, .q (.mv (.t 7)), []⟩,
 ⟨some 12, none, .q (.bin .geq (.t 11) (.v (.int .i64 0))), []⟩]
def c106_3 : ACode := .ops [
 ⟨some 13, none, .q (.mv (.t 0)), []⟩,
 ⟨some 14, none, .q (.mv (.t 7)), []⟩,
 ⟨some 15, none, .q (.slto (true, 0) (.t 13) (.t 14)), []⟩,
 ⟨some 16, none, .q (.mv (.t 0)), []⟩,
 ⟨some 17, none, .q (.mv (.t 7)), []⟩,
 ⟨some 18, none, .q (.mv (.t 1)), []⟩,
 ⟨some 19, none, .q (.lenS (.t 18)), []⟩,
 ⟨some 20, none, .q (.bin .add (.t 17) (.t 19)), []⟩,
 ⟨some 21, none, .q (.slfrom (true, 0) (.t 16) (.t 20)), []⟩,
 ⟨some 4, none, .q (.mv (.t 15)), []⟩,
 ⟨some 5, none, .q (.mv (.t 21)), []⟩,
 ⟨some 6, none, .q (.mv (.v (.bool true))), []⟩]
def c106_4 : ACode := .seq c106_3 .ret
def c106_5 : ACode := .cond (.t 12) c106_4 .skip
def c106_6 : ACode := .seq c106_2 c106_5
def c106_7 : ACode := .seq c106_1 c106_6
def c106_8 : ACode := .ops [
 ⟨some 22, none, .q (.mv (.t 0)), []⟩,
 ⟨some 4, none, .q (.mv (.t 22)), []⟩,
 ⟨some 5, none, .q (.mv (.v (.str []))), []⟩,
 ⟨some 6, none, .q (.mv (.v (.bool false))), []⟩]
def c106_9 : ACode := .seq c106_8 .ret
def c106_10 : ACode := .seq c106_7 c106_9
def c106_11 : ACode := .seq c106_0 c106_10
@[go_sem] def c106_0_wp := wp_of c106_0.eq_1
@[go_sem] def c106_1_wp := wp_of c106_1.eq_1
@[go_sem] def c106_2_wp := wp_of c106_2.eq_1
@[go_sem] def c106_3_wp := wp_of c106_3.eq_1
@[go_sem] def c106_4_wp := wp_of c106_4.eq_1
@[go_sem] def c106_5_wp := wp_of c106_5.eq_1
@[go_sem] def c106_6_wp := wp_of c106_6.eq_1
@[go_sem] def c106_7_wp := wp_of c106_7.eq_1
@[go_sem] def c106_8_wp := wp_of c106_8.eq_1
@[go_sem] def c106_9_wp := wp_of c106_9.eq_1
@[go_sem] def c106_10_wp := wp_of c106_10.eq_1
@[go_sem] def c106_11_wp := wp_of c106_11.eq_1
def c106 : AFn := ⟨23, [.t 4, .t 5, .t 6], c106_11⟩
theorem c106_ok : compF Tryz.prog Tryz.f106 = some c106 := by kernel_rfl
theorem a106 {args : List AV} {σ : ASt} {R : AV → ASt → Prop} (hl : args.length ≤ 23) (h : c106_11.wp Tryz.prog (RetQ [.t 4, .t 5, .t 6] R) (init args) σ) : ACalls Tryz.prog 106 args σ R := acalls_of Tryz.func106 c106_ok hl h
/-! 111: tabular/deci.made -/
def c111_0 : ACode := .ops [
 ⟨some 6, none, .q (.mv (.v (.int .i64 0))), []⟩,
 ⟨some 7, none, .q (.mv (.v (.bool false))), []⟩]
def c111_1 : ACode := .ops [
 ⟨some 8, none, .q (.mv (.t 1)), []⟩,
 ⟨some 9, none, .q (.bin .gtr (.t 8) (.v (.int .u64 0))), []⟩,
 ⟨some 10, none, .q (.mv (.t 9)), []⟩,
 ⟨some 11, some (10, false), .q (.mv (.t 2)), []⟩,
 ⟨some 12, some (10, false), .q (.bin .gtr (.t 11) (.v (.int .u64 999999999999999999))), []⟩,
 ⟨some 13, none, .q (.pick (.t 10) (.v (.bool true)) (.t 12)), []⟩]
def c111_2 : ACode := .ops [
 ⟨some 6, none, .q (.mv (.v (.int .i64 0))), []⟩,
 ⟨some 7, none, .q (.mv (.v (.bool false))), []⟩]
def c111_3 : ACode := .seq c111_2 .ret
def c111_4 : ACode := .cond (.t 13) c111_3 .skip
def c111_5 : ACode := .seq c111_1 c111_4
def c111_6 : ACode := .ops [
 ⟨some 14, none, .q (.mv (.t 0)), []⟩]
def c111_7 : ACode := .ops [
 ⟨some 15, none, .q (.mv (.t 2)), []⟩,
 ⟨some 16, none, .q (.conv .i64 (.t 15)), []⟩,
 ⟨some 17, none, .q (.un .neg (.t 16)), []⟩,
 ⟨some 6, none, .q (.mv (.t 17)), []⟩,
 ⟨some 7, none, .q (.mv (.v (.bool true))), []⟩]
def c111_8 : ACode := .seq c111_7 .ret
def c111_9 : ACode := .cond (.t 14) c111_8 .skip
def c111_10 : ACode := .seq c111_6 c111_9
def c111_11 : ACode := .ops [
 ⟨some 18, none, .q (.mv (.t 2)), []⟩,
 ⟨some 19, none, .q (.conv .i64 (.t 18)), []⟩,
 ⟨some 6, none, .q (.mv (.t 19)), []⟩,
 ⟨some 7, none, .q (.mv (.v (.bool true))), []⟩]
def c111_12 : ACode := .seq c111_11 .ret
def c111_13 : ACode := .seq c111_10 c111_12
def c111_14 : ACode := .seq c111_5 c111_13
def c111_15 : ACode := .seq c111_0 c111_14
@[go_sem] def c111_0_wp := wp_of c111_0.eq_1
@[go_sem] def c111_1_wp := wp_of c111_1.eq_1
@[go_sem] def c111_2_wp := wp_of c111_2.eq_1
@[go_sem] def c111_3_wp := wp_of c111_3.eq_1
@[go_sem] def c111_4_wp := wp_of c111_4.eq_1
@[go_sem] def c111_5_wp := wp_of c111_5.eq_1
@[go_sem] def c111_6_wp := wp_of c111_6.eq_1
@[go_sem] def c111_7_wp := wp_of c111_7.eq_1
@[go_sem] def c111_8_wp := wp_of c111_8.eq_1
@[go_sem] def c111_9_wp := wp_of c111_9.eq_1
@[go_sem] def c111_10_wp := wp_of c111_10.eq_1
@[go_sem] def c111_11_wp := wp_of c111_11.eq_1
@[go_sem] def c111_12_wp := wp_of c111_12.eq_1
@[go_sem] def c111_13_wp := wp_of c111_13.eq_1
@[go_sem] def c111_14_wp := wp_of c111_14.eq_1
@[go_sem] def c111_15_wp := wp_of c111_15.eq_1
def c111 : AFn := ⟨20, [.t 6, .t 7], c111_15⟩
theorem c111_ok : compF Tryz.prog Tryz.f111 = some c111 := by kernel_rfl
theorem a111 {args : List AV} {σ : ASt} {R : AV → ASt → Prop} (hl : args.length ≤ 20) (h : c111_15.wp Tryz.prog (RetQ [.t 6, .t 7] R) (init args) σ) : ACalls Tryz.prog 111 args σ R := acalls_of Tryz.func111 c111_ok hl h
end Go.A
namespace Go.A
open Go.Proofs
def greatC (c : UInt8) : UInt8 := if 97 ≤ c.toNat ∧ c.toNat ≤ 122 then UInt8.ofNat (c.toNat - 32) else c
def greatP (l : List UInt8) : List UInt8 := l.map greatC
end Go.A
namespace Go.A
open Go.Proofs Go.Lib
def signsN (l : List UInt8) : Nat := runeCount ⟨⟨l⟩⟩
theorem signsN_le (l : List UInt8) : signsN l ≤ l.length := runeCount_le ⟨⟨l⟩⟩
def wordB (c : UInt8) : Bool := decide ((48 ≤ c.toNat ∧ c.toNat ≤ 57) ∨ (97 ≤ c.toNat ∧ c.toNat ≤ 122) ∨ (65 ≤ c.toNat ∧ c.toNat ≤ 90) ∨ c.toNat = 95 ∨ c.toNat = 36 ∨ c.toNat = 46)
def digB (c : UInt8) : Bool := decide (48 ≤ c.toNat ∧ c.toNat ≤ 57)
def nameB (s : List UInt8) : Bool := decide (s ≠ []) && s.all (fun c => wordB c && decide (c.toNat ≠ 36)) && !((s.head?.map fun c => digB c || decide (c.toNat = 46)).getD false)
def cutDot : List UInt8 → List UInt8 × Option (List UInt8)
  | [] => ([], none)
  | c :: r => if c.toNat = 46 then ([], some r) else (c :: (cutDot r).1, (cutDot r).2)
def numB (s : List UInt8) : Bool :=
  match cutDot s with
  | (w, none) => decide (w ≠ []) && w.all digB
  | (w, some p) => decide (w ≠ []) && decide (p ≠ []) && decide (p.length ≤ 4) && (w ++ p).all digB
def refB (s : List UInt8) : Bool := (parseP s).2
inductive Step where
  | bad (k : Nat)
  | blank
  | tok (kind : Int) (text : List UInt8) (n : Nat)
  deriving DecidableEq
def wordsS (r : List UInt8) : Step :=
  let n := runL wordB r
  let w := r.take n
  if numB w then .tok 1 w n else if refB w then .tok 4 (greatP w) n else if nameB w then .tok 3 (greatP w) n else .bad 0
def quotedF : Nat → List UInt8 → Nat → List UInt8 → Step
  | 0, _, _, _ => .bad 0
  | k + 1, r, p, acc =>
    if r = [] then .bad 0
    else if decodeL r = (65533, 1) then .bad (1 + p)
    else if (decodeL r).1 ≠ 34 then quotedF k (r.drop (decodeL r).2) (p + (decodeL r).2) (acc ++ encodeRune ((decodeL r).1 : Int))
    else if r[1]? = some 34 then quotedF k (r.drop 2) (p + 2) (acc ++ [34])
    else .tok 2 acc (p + 2)
def errTexts : List (List UInt8) := [[35, 68, 73, 86, 47, 48, 33], [35, 78, 85, 77, 33], [35, 86, 65, 76, 85, 69, 33], [35, 82, 69, 70, 33], [35, 78, 47, 65], [35, 78, 65, 77, 69, 63], [35, 67, 89, 67, 76, 69, 33]]
def failS (r : List UInt8) : List (List UInt8) → Step
  | [] => .bad 0
  | e :: es => if e.length ≤ r.length ∧ greatP (r.take e.length) = e then .tok 5 e e.length else failS r es
def alikeP (c : Int) : List UInt8 :=
  if c = 8804 then [60, 61] else if c = 8805 then [62, 61] else if c = 8800 then [60, 62] else if c = 215 then [42] else if c = 247 then [47] else if c = 8722 then [45] else []
def twos : List (List UInt8) := [[60, 61], [62, 61], [60, 62]]
def twoS (r : List UInt8) : List (List UInt8) → Option (List UInt8)
  | [] => none
  | e :: es => if e.isPrefixOf r then some e else twoS r es
def opChars : List UInt8 := [43, 45, 42, 47, 94, 38, 61, 60, 62, 37, 40, 41, 58, 44]
def opS (c : Int) (n : Nat) (r : List UInt8) : Step :=
  if alikeP c ≠ [] then .tok 6 (alikeP c) n
  else match twoS r twos with
    | some e => .tok 6 e 2
    | none => if (r.headD 0) ∈ opChars then .tok 6 (r.take 1) 1 else .bad 0
def stepP (r : List UInt8) : Step :=
  let c := (decodeL r).1
  if decodeL r = (65533, 1) then .bad 0
  else if c = 32 ∨ c = 9 ∨ c = 10 then .blank
  else if c < 128 ∧ wordB (UInt8.ofNat c) = true then wordsS r
  else if c = 34 then quotedF (r.length) (r.drop 1) 0 []
  else if c = 35 then failS r errTexts
  else opS c (decodeL r).2 r
structure Tok where
  kind : Int
  text : List UInt8
  at' : Nat
  col : Nat
  deriving DecidableEq
def lexF : Nat → List UInt8 → Nat → Nat → List Tok → List Tok × Nat × Int
  | 0, _, a, _, acc => ([], a, 10)
  | k + 1, r, a, c, acc =>
    if r = [] then (acc ++ [⟨0, [], a, c⟩], 0, 0)
    else match stepP r with
      | .bad j => ([], a + j, 10)
      | .blank => lexF k (r.drop 1) (a + 1) (c + 1) acc
      | .tok kind t n => lexF k (r.drop n) (a + n) (c + signsN (r.take n)) (acc ++ [⟨kind, t, a, c⟩])
def lexP (s : List UInt8) : List Tok × Nat × Int := if 2000 < s.length then ([], 0, 11) else lexF (s.length + 1) s 0 0 []
def tokAV (t : Tok) : AV := .agg [.int .i64 t.kind, .str t.text, .int .i64 t.at', .int .i64 t.col]
end Go.A
namespace Go.A
open Go.Proofs Go.Lib
def accTab : List Int := (List.range 16).flatMap fun i => [(accLo i : Int), (accHi i : Int)]
def U8 (σ : ASt) : Prop := σ 1 = some (.fix (firstTab.map (AV.int .u8))) ∧ σ 2 = some (.fix (accTab.map (AV.int .u8)))
theorem U8.of_eq {σ σ' : ASt} (h : U8 σ) (h1 : σ' 1 = σ 1) (h2 : σ' 2 = σ 2) : U8 σ' := ⟨h1.trans h.1, h2.trans h.2⟩
theorem U8.set {σ : ASt} {b : Nat} {r : Option Role} (h : U8 σ) (hb : σ b = none) : U8 (σ.set b r) := by
  refine h.of_eq (ASt.set_ne ?_) (ASt.set_ne ?_) <;> rintro rfl
  · rw [h.1] at hb; cases hb
  · rw [h.2] at hb; cases hb
theorem fix_ints {σ : ASt} {w : World} (hs : Sim σ w) {b : Nat} {k : IntKind} {zs : List Int} (h : σ b = some (.fix (zs.map (AV.int k)))) : ∀ j z, zs[j]? = some z → w.cell? ⟨b, j, none⟩ = some (.int k z) := by
  intro j z hj
  obtain ⟨vs, h4, h5⟩ := (hs b _ h).1.vals
  have h6 := reps_ints h4
  subst h6
  have := h5 j (Value.int k z) (by simp [hj])
  simpa using this
theorem u8_tabs {σ : ASt} {w : World} (hs : Sim σ w) (h : U8 σ) : Utf8Tabs 1 2 w := by
  refine ⟨fun c hc => fix_ints hs h.1 c _ (by simp [firstTab, hc]), fun i hi => ?_⟩
  have key : ∀ i, i < 16 → accTab[2 * i]? = some (accLo i : Int) ∧ accTab[2 * i + 1]? = some (accHi i : Int) := by decide
  exact ⟨fix_ints hs h.2 _ _ (key i hi).1, fix_ints hs h.2 _ _ (key i hi).2⟩
theorem ACalls.of_below {P : Program} {σ : ASt} {f : FuncId} {args : List AV} {r : AV} {u : Value} (h : ∀ w vs, Sim σ w → Reps σ w args vs → Calls P f ⟨vs⟩ w fun e w' => e = .returned u ∧ RowKit.Below w.heap.size w w') (hr : ∀ w, Rep σ w r u) : ACalls P f args σ fun v σ' => v = r ∧ σ' = σ :=
  ACalls.of_ext (fun w vs hs ha => (h w vs hs ha).mono fun e w' ⟨he, hb⟩ => ⟨he, Ext.of_below hb⟩) hr
theorem dec_ok {σ : ASt} (h : U8 σ) {l : List UInt8} (h0 : l ≠ []) : ACalls Tryz.prog 64 [.str l] σ fun v σ' => v = .tuple [.int .i32 (decodeL l).1, .int .i64 (decodeL l).2] ∧ σ' = σ := by
  refine ACalls.of_below (u := .tuple #[.int .i32 (decodeL l).1, .int .i64 (decodeL l).2]) (fun w vs hs ha => ?_) fun w => .tuple (.cons (.int _ _) (.cons (.int _ _) .nil))
  cases ha with
  | cons h1 h2 =>
  cases h1; cases h2
  have := Tryz.utf8_DecodeRuneInString ⟨⟨l⟩⟩ w (u8_tabs hs h)
  have e : decodeGo ⟨⟨l⟩⟩ = decodeL l := by
    unfold decodeGo decodeL
    rw [if_neg (by cases l; exact absurd rfl h0; simp [ByteArray.size])]
  rw [e] at this
  exact this
theorem count_ok (l : List UInt8) (hl : l.length < 9223372036854775807) : Pure Tryz.prog 48 [.str l] (.int .i64 (signsN l)) := by
  intro σ
  refine ACalls.of_ext (u := .int .i64 (signsN l)) (fun w vs hs ha => ?_) fun w => .int _ _
  cases ha with
  | cons h1 h2 =>
  cases h1; cases h2
  refine (Tryz.utf8_RuneCountInString ⟨⟨l⟩⟩ w (by simpa [ByteArray.size] using hl)).mono ?_
  rintro e w' ⟨rfl, pos, rfl⟩
  exact ⟨rfl, Ext.alloc (Ext.refl w) _⟩
theorem runeLen_ok (r : Int) : Pure Tryz.prog 70 [.int .i32 r] (.int .i64 (runeLen r)) := by
  intro σ
  refine ACalls.of_ext (u := .int .i64 (runeLen r)) (fun w vs hs ha => ?_) fun w => .int _ _
  cases ha with
  | cons h1 h2 =>
  cases h1; cases h2
  exact (Tryz.utf8_RuneLen r w).mono fun e w' ⟨he, hw⟩ => ⟨he, Ext.of_eq hw⟩
theorem prefix_ok (s p : List UInt8) (hs : s.length ≤ 1000000000) (hp : p.length ≤ 1000000000) : Pure Tryz.prog 72 [.str s, .str p] (.bool (p.isPrefixOf s)) := by
  intro σ
  refine ACalls.of_ext (u := .bool (p.isPrefixOf s)) (fun w vs hs ha => ?_) fun w => .bool _
  cases ha with
  | cons h1 h2 =>
  cases h2 with
  | cons h2 h3 =>
  cases h1; cases h2; cases h3
  refine (Tryz.strings_HasPrefix ⟨⟨s⟩⟩ ⟨⟨p⟩⟩ w).mono fun e w' ⟨he, hw⟩ => ⟨?_, Ext.of_eq hw⟩
  rw [he]
  rfl
theorem contains_ok (s : List UInt8) (c : UInt8) : Pure Tryz.prog 73 [.str s, .str [c]] (.bool (decide (0 ≤ indexByte s c))) := by
  intro σ
  refine ACalls.of_ext (u := .bool (decide (0 ≤ indexByte s c))) (fun w vs hs ha => ?_) fun w => .bool _
  cases ha with
  | cons h1 h2 =>
  cases h2 with
  | cons h2 h3 =>
  cases h1; cases h2; cases h3
  exact (Tryz.strings_Contains_one ⟨⟨s⟩⟩ c w).mono fun e w' ⟨he, hw⟩ => ⟨he, Ext.of_eq hw⟩
theorem index_ok (s : List UInt8) (c : UInt8) : Pure Tryz.prog 109 [.str s, .str [c]] (.int .i64 (indexByte s c)) := by
  intro σ
  refine ACalls.of_ext (u := .int .i64 (indexByte s c)) (fun w vs hs ha => ?_) fun w => .int _ _
  cases ha with
  | cons h1 h2 =>
  cases h2 with
  | cons h2 h3 =>
  cases h1; cases h2; cases h3
  exact (Tryz.stringslite_Index_one ⟨⟨s⟩⟩ c w).mono fun e w' ⟨he, hw⟩ => ⟨he, Ext.of_eq hw⟩
end Go.A
namespace Go.A
open Go.Proofs
theorem lettersF_len : ∀ k n, (lettersF k n).length ≤ k
  | 0, n => Nat.le_refl _
  | k + 1, n => by
    unfold lettersF
    split
    · exact Nat.zero_le _
    · have := lettersF_len k ((n - 1) / 26)
      simp; omega
theorem letters_len (c : Int) : (lettersP c).length ≤ 4 := by
  unfold lettersP
  split
  · exact Nat.zero_le _
  · exact lettersF_len _ _
end Go.A
namespace Go.A
open Go.Proofs
def digF : Nat → Nat → List UInt8
  | 0, _ => []
  | k + 1, n => if n < 10 then [UInt8.ofNat (48 + n)] else digF k (n / 10) ++ [UInt8.ofNat (48 + n % 10)]
theorem digF_eq : ∀ (k n : Nat), n < 10 ^ (k + 1) → Lib.decDigits n = digF (k + 1) n
  | 0, n, h => by
    rw [Lib.decDigits, dif_pos (by omega)]
    unfold digF
    rw [if_pos (by omega)]
  | k + 1, n, h => by
    rw [Lib.decDigits]
    unfold digF
    by_cases h1 : n < 10
    · rw [dif_pos h1, if_pos h1]
    · rw [dif_neg h1, if_neg h1, digF_eq k (n / 10) (by rw [Nat.pow_succ] at h; omega)]
def numT (row : Int) : List UInt8 := digF 4 (row + 1).toNat
theorem itoa_num {row : Int} (h0 : 0 ≤ row) (h1 : row < 3000) : Lib.itoa (row + 1) = numT row := by
  unfold Lib.itoa numT
  rw [if_neg (by omega), digF_eq 3 _ (by omega)]
theorem num_all : (List.range 3000).all (fun i => decide (numF 0 (numT i) = (i : Int) + 1) && (numT i).all isD && decide (1 ≤ (numT i).length) && decide ((numT i).length ≤ 4) && decide (atP (numT i) 0 ≠ 48)) = true := by decide +kernel
theorem num_facts {row : Int} (h0 : 0 ≤ row) (h1 : row < 3000) : numF 0 (numT row) = row + 1 ∧ (∀ c ∈ numT row, isD c = true) ∧ 1 ≤ (numT row).length ∧ (numT row).length ≤ 4 ∧ atP (numT row) 0 ≠ 48 := by
  obtain ⟨i, rfl⟩ : ∃ i : Nat, row = i := ⟨row.toNat, by omega⟩
  have := List.all_eq_true.1 num_all i (List.mem_range.2 (by omega))
  simpa [and_assoc] using this
theorem let_all : (List.range 700).all (fun i => (lettersP i).all isL && decide (1 ≤ (lettersP i).length)) = true := by decide +kernel
theorem let_facts {col : Int} (h0 : 0 ≤ col) (h1 : col < 700) : (∀ c ∈ lettersP col, isL c = true) ∧ 1 ≤ (lettersP col).length := by
  obtain ⟨i, rfl⟩ : ∃ i : Nat, col = i := ⟨col.toNat, by omega⟩
  have := List.all_eq_true.1 let_all i (List.mem_range.2 (by omega))
  simpa using this
def dolP (b : Bool) : List UInt8 := if b then [36] else []
def textP (r : Ref) : List UInt8 := dolP r.absCol ++ lettersP r.col ++ dolP r.absRow ++ numT r.row
theorem text_len {r : Ref} (hg : r.good = true) : 2 ≤ (textP r).length ∧ (textP r).length ≤ 10 := by
  simp only [Ref.good, decide_eq_true_eq] at hg
  obtain ⟨g1, g2, g3, g4⟩ := hg
  obtain ⟨l1, l2⟩ := let_facts g3 g4
  obtain ⟨n1, n2, n3, n4, n5⟩ := num_facts g1 g2
  have := letters_len r.col
  unfold textP dolP
  simp only [List.length_append]
  constructor
  · omega
  · split <;> split <;> simp <;> omega
end Go.A
namespace Go.A
inductive Nd where
  | mk (op n : Int) (s : List UInt8) (a b : Ref) (kids : List Nd)
instance : Inhabited Nd := ⟨.mk 0 0 [] .zero .zero []⟩
def Nd.op : Nd → Int | .mk op _ _ _ _ _ => op
mutual
def Nd.av : Nd → AV
  | .mk op n s a b kids => .agg [.int .i64 op, .int .i64 n, .str s, .int .i64 a.row, .int .i64 a.col, .bool a.absRow, .bool a.absCol, .int .i64 b.row, .int .i64 b.col, .bool b.absRow, .bool b.absCol, .sl .shr (Nd.avs kids)]
def Nd.avs : List Nd → List AV
  | [] => []
  | x :: xs => x.av :: Nd.avs xs
end
theorem Nd.avs_map : ∀ l : List Nd, Nd.avs l = l.map Nd.av
  | [] => rfl
  | x :: xs => by rw [Nd.avs, Nd.avs_map xs]; rfl
theorem Nd.av_eq (op n : Int) (s : List UInt8) (a b : Ref) (kids : List Nd) : (Nd.mk op n s a b kids).av = .agg [.int .i64 op, .int .i64 n, .str s, .int .i64 a.row, .int .i64 a.col, .bool a.absRow, .bool a.absCol, .int .i64 b.row, .int .i64 b.col, .bool b.absRow, .bool b.absCol, .sl .shr (kids.map Nd.av)] := by
  rw [Nd.av, Nd.avs_map]
def Nd.cs (op n : Int) (s : List UInt8) (a b : Ref) (L : List AV) : List AV := [.int .i64 op, .int .i64 n, .str s, .int .i64 a.row, .int .i64 a.col, .bool a.absRow, .bool a.absCol, .int .i64 b.row, .int .i64 b.col, .bool b.absRow, .bool b.absCol, .sl .shr L]
theorem Nd.av_cs (op n : Int) (s : List UInt8) (a b : Ref) (kids : List Nd) : (Nd.mk op n s a b kids).av = .agg (Nd.cs op n s a b (kids.map Nd.av)) := Nd.av_eq ..
section
variable {op n : Int} {s : List UInt8} {a b : Ref} {L : List AV}
@[go_sem] theorem cs_0 : (Nd.cs op n s a b L)[0]? = some (.int .i64 op) := id rfl
@[go_sem] theorem cs_1 : (Nd.cs op n s a b L)[1]? = some (.int .i64 n) := id rfl
@[go_sem] theorem cs_2 : (Nd.cs op n s a b L)[2]? = some (.str s) := id rfl
@[go_sem] theorem cs_11 : (Nd.cs op n s a b L)[11]? = some (.sl .shr L) := id rfl
@[go_sem] theorem cs_len : (Nd.cs op n s a b L).length = 12 := id rfl
@[go_sem] theorem cs_leaves : leaves (Nd.cs op n s a b L) = true := id rfl
@[go_sem] theorem cs_take : (Nd.cs op n s a b L).take 12 = Nd.cs op n s a b L := id rfl
@[go_sem] theorem cs_ta : ((Nd.cs op n s a b L).drop 3).take 4 = [.int .i64 a.row, .int .i64 a.col, .bool a.absRow, .bool a.absCol] := id rfl
@[go_sem] theorem cs_tb : ((Nd.cs op n s a b L).drop 7).take 4 = [.int .i64 b.row, .int .i64 b.col, .bool b.absRow, .bool b.absCol] := id rfl
end
theorem Nd.av_len (n : Nd) : n.av.cells.length = 12 := by cases n; rfl
theorem Nd.av_leaves (n : Nd) : leaves n.av.cells = true := by cases n; rfl
theorem Nd.get {l : List Nd} {i : Nat} {x : Nd} (h : l[i]? = some x) : (l.map Nd.av)[i]? = some x.av := by rw [List.getElem?_map, h]; rfl
mutual
theorem Nd.deep : ∀ n : Nd, Go.A.deep n.av = n.av
  | .mk op n s a b kids => by
    rw [Nd.av, Go.A.deep]
    simp only [Go.A.deeps, Go.A.deep, Nd.deeps kids]
theorem Nd.deeps : ∀ l : List Nd, Go.A.deeps (Nd.avs l) = Nd.avs l
  | [] => rfl
  | x :: xs => by rw [Nd.avs, Go.A.deeps, Nd.deep x, Nd.deeps xs]
end
mutual
def Nd.size : Nd → Nat
  | .mk _ _ _ _ _ kids => 1 + Nd.sizes kids
def Nd.sizes : List Nd → Nat
  | [] => 0
  | x :: xs => x.size + Nd.sizes xs
end
theorem Nd.size_kid : ∀ {l : List Nd} {x : Nd}, x ∈ l → x.size ≤ Nd.sizes l
  | [], _, h => by cases h
  | y :: l, x, h => by
    rw [Nd.sizes]
    rcases List.mem_cons.1 h with rfl | h
    · omega
    · have := Nd.size_kid h; omega
theorem Nd.size_pos (n : Nd) : 0 < n.size := by cases n; rw [Nd.size]; omega
def levelP (op : Int) : Int :=
  if op = 7 ∨ op = 8 then 6 else if op = 9 then 7 else if op < 10 ∨ 22 ≤ op then 8
  else if op ≤ 11 then 3 else if op ≤ 13 then 4 else if op = 14 then 5 else if op = 15 then 2 else 1
def signL : List (List UInt8) := [[43], [45], [42], [47], [94], [38], [61], [60, 62], [60], [60, 61], [62], [62, 61]]
def errL : List (List UInt8) := [[35, 68, 73, 86, 47, 48, 33], [35, 78, 85, 77, 33], [35, 86, 65, 76, 85, 69, 33], [35, 82, 69, 70, 33], [35, 78, 47, 65], [35, 78, 65, 77, 69, 63], [35, 67, 89, 67, 76, 69, 33]]
def failT (op n : Int) : List UInt8 := if op ≠ 4 ∨ n.tdiv 10000 < 1 ∨ 7 < n.tdiv 10000 then [] else errL.getD (n.tdiv 10000 - 1).toNat []
def truthP (b : Bool) : List UInt8 := if b = true then [84, 82, 85, 69] else [70, 65, 76, 83, 69]
def quotT (s : List UInt8) : List UInt8 := 34 :: (s.flatMap fun c => if c = 34 then [34, 34] else [c]) ++ [34]
def insT (least : Int) (op : Int) (t : List UInt8) : List UInt8 := if least ≤ levelP op then t else 40 :: t ++ [41]
def joinC : List (Int × List UInt8) → List UInt8
  | [] => []
  | p :: r => p.2 ++ r.flatMap fun q => 44 :: q.2
def spellK (op n : Int) (s : List UInt8) (a b : Ref) (ks : List (Int × List UInt8)) : List UInt8 :=
  if op = 1 then textD n else if op = 2 then quotT s else if op = 3 then truthP (!decide (n = 0)) else if op = 4 then failT op n else if op = 5 then textP a else if op = 6 then textP a ++ [58] ++ textP b
  else if op = 7 ∨ op = 8 then (if op = 7 then 45 else 43) :: insT 6 (ks.getD 0 (0, [])).1 (ks.getD 0 (0, [])).2
  else if op = 9 then insT 7 (ks.getD 0 (0, [])).1 (ks.getD 0 (0, [])).2 ++ [37]
  else if op = 22 then s ++ 40 :: joinC ks ++ [41]
  else if op = 23 then []
  else insT (levelP op) (ks.getD 0 (0, [])).1 (ks.getD 0 (0, [])).2 ++ signL.getD (op - 10).toNat [] ++ insT (levelP op + 1) (ks.getD 1 (0, [])).1 (ks.getD 1 (0, [])).2
mutual
def Nd.spell : Nd → List UInt8
  | .mk op n s a b kids => spellK op n s a b (Nd.spells kids)
def Nd.spells : List Nd → List (Int × List UInt8)
  | [] => []
  | x :: xs => (x.op, x.spell) :: Nd.spells xs
end
theorem Nd.spells_map : ∀ l : List Nd, Nd.spells l = l.map fun x => (x.op, x.spell)
  | [] => rfl
  | x :: xs => by rw [Nd.spells, Nd.spells_map xs]; rfl
def nodeOk (op n : Int) (s : List UInt8) (a b : Ref) (k : Nat) : Prop :=
  (1 ≤ op ∧ op ≤ 23) ∧ (op = 1 → n.natAbs ≤ 999999999999999999) ∧ (op = 2 → s.length ≤ 100000) ∧ (op = 4 → 1 ≤ n.tdiv 10000 ∧ n.tdiv 10000 ≤ 7) ∧ (op = 22 → s ≠ []) ∧ (op = 5 ∨ op = 6 → a.good = true) ∧ (op = 6 → b.good = true) ∧ (op = 7 ∨ op = 8 ∨ op = 9 → 1 ≤ k) ∧ (10 ≤ op ∧ op ≤ 21 → 2 ≤ k) ∧ k ≤ 1000000
mutual
def Nd.ok : Nd → Prop
  | .mk op n s a b kids => nodeOk op n s a b kids.length ∧ Nd.oks kids
def Nd.oks : List Nd → Prop
  | [] => True
  | x :: xs => x.ok ∧ Nd.oks xs
end
theorem Nd.oks_mem : ∀ {l : List Nd}, Nd.oks l ↔ ∀ x ∈ l, x.ok
  | [] => by simp [Nd.oks]
  | y :: l => by rw [Nd.oks, Nd.oks_mem (l := l)]; simp
end Go.A
