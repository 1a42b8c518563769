/- Part 6 of what ExprOne leans on: Shelf Wz Wa Zu Zd CodeEq Eq CodeWb Wb Hc Hd Hf CodeZe. -/
import Derived.Shelf.Strings.Builder1
import Derived.Shelf.Strings.Builder2
import Derived.Shelf.Strings.Trim
import Derived.Shelf.Small.Utf8
import Derived.Shelf.Small.Strs
import Derived.Shelf.Strings.BuilderF
import Derived.Shelf.Strings.BuilderK
import Derived.Shelf.Strings.BuilderRune
import Derived.Shelf.Utf8.AppendRunePlain
import Derived.Shelf.Utf8.RuneCount
import Derived.Shelf.Strings.Builder2Cap
import Derived.Shelf.Strconv.Itoa0
import Derived.Shelf.Strconv.Itoa1
import Derived.Shelf.LaysM
import Derived.Shelf.Strconv.Itoa2
import Derived.Shelf.Strconv.Itoa3
import Derived.Shelf.Strings.Search1
import Derived.Shelf.Strings.Search2
import Derived.Shelf.Strings.Search3
import Derived.Shelf.Strings.Cut
import Derived.Shelf.Strings.Count
import Derived.Shelf.Strings.Shaped
import Derived.Shelf.Strings.Prefix
import Derived.Shelf.Strings.Split
import Derived.Shelf.Strings.Replace
import Derived.Shelf.Strings.SplitShaped
import Derived.Shelf.Strings.Runes
import Derived.Shelf.Strings.RuneCount
import Derived.Shelf.Strings.AsciiSet
import Derived.Shelf.Unicode.DecodeSlow
import Derived.Shelf.Unicode.DecodeAny
import Derived.Shelf.Strings.BuilderCap
import Derived.Test.YtennoafgkkoeaaaGreatDoorProg
import Derived.Lib.ItoaMem
import Derived.Lib.LaidU8
import Derived.KernelRfl
import Derived.Lib.Replace
import Derived.Lib.AppendIntMem
import Derived.BigCall
import Derived.BigGuard
import Derived.Test.YtennoafgkkoeaaaGreatDoorZExprOnee
namespace Go.Proofs
open Go.Shelf
def Tryz.lays169_ren : Go.Shelf.Ren := ⟨fun | 169 => 33 | n => n, fun | 70 => 70 | 9 => 9 | 0 => 0 | 72 => 72 | 37 => 51 | 127 => 108 | 3 => 3 | 5 => 5 | n => n, fun | n => n⟩
theorem Tryz.lays169 : Go.Proofs.Lays.n169 Tryz.prog Tryz.lays169_ren := {
  mixed := by kernel_rfl
  f169 := Tryz.func33.trans (congrArg some (by kernel_rfl))
  t0 := Tryz.underlying0
  a0 := Tryz.isAgg0
  z0 := Tryz.sizeOf0
  v0 := Tryz.zeroValue0
  t3 := Tryz.underlying3
  a3 := Tryz.isAgg3
  z3 := Tryz.sizeOf3
  v3 := Tryz.zeroValue3
  t9 := Tryz.underlying9
  a9 := Tryz.isAgg9
  z9 := Tryz.sizeOf9
  v9 := Tryz.zeroValue9
  t37 := Tryz.underlying51
  a37 := Tryz.isAgg51
  z37 := Tryz.sizeOf51
  v37 := Tryz.zeroValue51
  t70 := Tryz.underlying70
  a70 := Tryz.isAgg70
  z70 := Tryz.sizeOf70
  v70 := Tryz.zeroValue70
  t72 := Tryz.underlying72
  a72 := Tryz.isAgg72
  z72 := Tryz.sizeOf72
  v72 := Tryz.zeroValue72
  t127 := Tryz.underlying108
  a127 := Tryz.isAgg108
  z127 := Tryz.sizeOf108
  v127 := Tryz.zeroValue108 }
theorem Tryz.Builder_Extra_169 : Builder.Extra Tryz.prog Tryz.lays169_ren := {
  sizeBuilder := by kernel_rfl
  liesBuilder := by kernel_rfl
  t5 := Tryz.underlying5
  a5 := Tryz.isAgg5
  z5 := Tryz.sizeOf5
  v5 := Tryz.zeroValue5
  infoByte := by kernel_rfl
  cellsByte := by kernel_rfl
  sizeByte := by kernel_rfl
  neB5 := by decide }
def Tryz.lays162_ren : Go.Shelf.Ren := ⟨fun | 162 => 84 | 232 => 99 | 227 => 100 | 234 => 101 | 236 => 102 | 228 => 112 | 271 => 113 | 151 => 114 | 120 => 132 | 197 => 94 | 152 => 133 | 260 => 105 | 137 => 148 | 119 => 149 | 224 => 150 | 225 => 151 | 217 => 153 | 266 => 160 | n => n, fun | 9 => 9 | 4 => 4 | 3 => 3 | 5 => 5 | 117 => 140 | 116 => 139 | 0 => 0 | 124 => 143 | 21 => 21 | 105 => 127 | 46 => 113 | 119 => 158 | 139 => 161 | 138 => 160 | n => n, fun | 3 => 0 | 4 => 1 | n => n⟩
theorem Tryz.lays162 : Go.Proofs.Lays.n162 Tryz.prog Tryz.lays162_ren := {
  mixed := by kernel_rfl
  f119 := Tryz.func149.trans (congrArg some (by kernel_rfl))
  f120 := Tryz.func132.trans (congrArg some (by kernel_rfl))
  f137 := Tryz.func148.trans (congrArg some (by kernel_rfl))
  f151 := Tryz.func114.trans (congrArg some (by kernel_rfl))
  f152 := Tryz.func133.trans (congrArg some (by kernel_rfl))
  f162 := Tryz.func84.trans (congrArg some (by kernel_rfl))
  f197 := Tryz.func94.trans (congrArg some (by kernel_rfl))
  f217 := Tryz.func153.trans (congrArg some (by kernel_rfl))
  f224 := Tryz.func150.trans (congrArg some (by kernel_rfl))
  f225 := Tryz.func151.trans (congrArg some (by kernel_rfl))
  f227 := Tryz.func100.trans (congrArg some (by kernel_rfl))
  f228 := Tryz.func112.trans (congrArg some (by kernel_rfl))
  f232 := Tryz.func99.trans (congrArg some (by kernel_rfl))
  f234 := Tryz.func101.trans (congrArg some (by kernel_rfl))
  f236 := Tryz.func102.trans (congrArg some (by kernel_rfl))
  f260 := Tryz.func105.trans (congrArg some (by kernel_rfl))
  f266 := Tryz.func160.trans (congrArg some (by kernel_rfl))
  f271 := Tryz.func113.trans (congrArg some (by kernel_rfl))
  t0 := Tryz.underlying0
  a0 := Tryz.isAgg0
  z0 := Tryz.sizeOf0
  v0 := Tryz.zeroValue0
  t3 := Tryz.underlying3
  a3 := Tryz.isAgg3
  z3 := Tryz.sizeOf3
  v3 := Tryz.zeroValue3
  t4 := Tryz.underlying4
  a4 := Tryz.isAgg4
  z4 := Tryz.sizeOf4
  v4 := Tryz.zeroValue4
  t5 := Tryz.underlying5
  a5 := Tryz.isAgg5
  z5 := Tryz.sizeOf5
  v5 := Tryz.zeroValue5
  t9 := Tryz.underlying9
  a9 := Tryz.isAgg9
  z9 := Tryz.sizeOf9
  v9 := Tryz.zeroValue9
  t21 := Tryz.underlying21
  a21 := Tryz.isAgg21
  z21 := Tryz.sizeOf21
  v21 := Tryz.zeroValue21
  t46 := Tryz.underlying113
  a46 := Tryz.isAgg113
  z46 := Tryz.sizeOf113
  v46 := Tryz.zeroValue113
  t105 := Tryz.underlying127
  a105 := Tryz.isAgg127
  z105 := Tryz.sizeOf127
  v105 := Tryz.zeroValue127
  t116 := Tryz.underlying139
  a116 := Tryz.isAgg139
  z116 := Tryz.sizeOf139
  t117 := Tryz.underlying140
  a117 := Tryz.isAgg140
  z117 := Tryz.sizeOf140
  v117 := Tryz.zeroValue140
  t119 := Tryz.underlying158
  a119 := Tryz.isAgg158
  z119 := Tryz.sizeOf158
  t124 := Tryz.underlying143
  a124 := Tryz.isAgg143
  z124 := Tryz.sizeOf143
  v124 := Tryz.zeroValue143
  t138 := Tryz.underlying160
  a138 := Tryz.isAgg160
  z138 := Tryz.sizeOf160
  v138 := Tryz.zeroValue160
  t139 := Tryz.underlying161
  a139 := Tryz.isAgg161
  z139 := Tryz.sizeOf161
  v139 := Tryz.zeroValue161
  g3 := by kernel_rfl
  g4 := by kernel_rfl }
open Go.RowKit in
theorem Tryz.strings_TrimRight_one (s : ByteArray) (c : UInt8) (hc : c.toNat < 128) (w : World) (hs : s.size ≤ 9223372036854775807) :
    Calls Tryz.prog 84 #[.string s, .string ⟨#[c]⟩] w fun e w' => e = .returned (.string ⟨(Lib.trimRightB s.data.toList c).toArray⟩) ∧ w' = w := Any.strings_TrimRight_one Tryz.lays162 s c hc w hs
def Tryz.lays118_ren : Go.Shelf.Ren := ⟨fun | 118 => 142 | n => n, fun | 21 => 21 | 3 => 3 | 4 => 4 | n => n, fun | n => n⟩
theorem Tryz.lays118 : Go.Proofs.Lays.n118 Tryz.prog Tryz.lays118_ren := {
  mixed := by kernel_rfl
  f118 := Tryz.func142.trans (congrArg some (by kernel_rfl))
  t3 := Tryz.underlying3
  a3 := Tryz.isAgg3
  z3 := Tryz.sizeOf3
  v3 := Tryz.zeroValue3
  t4 := Tryz.underlying4
  a4 := Tryz.isAgg4
  z4 := Tryz.sizeOf4
  v4 := Tryz.zeroValue4
  t21 := Tryz.underlying21
  a21 := Tryz.isAgg21
  z21 := Tryz.sizeOf21
  v21 := Tryz.zeroValue21 }
theorem Tryz.utf8_RuneLen (r : Int) (w : World) :
    Calls Tryz.prog 142 #[.int .i32 r] w fun e w' => e = .returned (.int .i64 (Lib.runeLen r)) ∧ w' = w := Any.utf8_RuneLen Tryz.lays118 r w
def Tryz.lays195_ren : Go.Shelf.Ren := ⟨fun | 195 => 126 | n => n, fun | 9 => 9 | 3 => 3 | 0 => 0 | 4 => 4 | n => n, fun | n => n⟩
theorem Tryz.lays195 : Go.Proofs.Lays.n195 Tryz.prog Tryz.lays195_ren := {
  mixed := by kernel_rfl
  f195 := Tryz.func126.trans (congrArg some (by kernel_rfl))
  t0 := Tryz.underlying0
  a0 := Tryz.isAgg0
  z0 := Tryz.sizeOf0
  v0 := Tryz.zeroValue0
  t3 := Tryz.underlying3
  a3 := Tryz.isAgg3
  z3 := Tryz.sizeOf3
  v3 := Tryz.zeroValue3
  t4 := Tryz.underlying4
  a4 := Tryz.isAgg4
  z4 := Tryz.sizeOf4
  v4 := Tryz.zeroValue4
  t9 := Tryz.underlying9
  a9 := Tryz.isAgg9
  z9 := Tryz.sizeOf9
  v9 := Tryz.zeroValue9 }
open Go.RowKit in
theorem Tryz.utf8_RuneCountInString (s : ByteArray) (w : World) (hs : s.size < 9223372036854775807) :
    Calls Tryz.prog 126 #[.string s] w fun e w' => e = .returned (.int .i64 (Lib.runeCount s)) ∧ ∃ pos, w' = w.iter s pos := Any.utf8_RuneCountInString Tryz.lays195 s w hs
def Tryz.lays283_ren : Go.Shelf.Ren := ⟨fun | 283 => 108 | n => n, fun | 3 => 3 | 9 => 9 | 4 => 4 | n => n, fun | n => n⟩
theorem Tryz.lays283 : Go.Proofs.Lays.n283 Tryz.prog Tryz.lays283_ren := {
  mixed := by kernel_rfl
  f283 := Tryz.func108.trans (congrArg some (by kernel_rfl))
  t3 := Tryz.underlying3
  a3 := Tryz.isAgg3
  z3 := Tryz.sizeOf3
  v3 := Tryz.zeroValue3
  t4 := Tryz.underlying4
  a4 := Tryz.isAgg4
  z4 := Tryz.sizeOf4
  v4 := Tryz.zeroValue4
  t9 := Tryz.underlying9
  a9 := Tryz.isAgg9
  z9 := Tryz.sizeOf9
  v9 := Tryz.zeroValue9 }
open Go.Lib in
theorem Tryz.internal_strconv_small (i : Nat) (h : i < 100) (w : World) :
    Calls Tryz.prog 108 #[.int .i64 i] w fun e w' => e = .returned (.string ⟨(Lib.decDigits i).toArray⟩) ∧ w' = w := Any.internal_strconv_small Tryz.lays283 i h w
def Tryz.laysM284_ren : Go.Shelf.Ren := ⟨fun | 284 => 109 | 129 => 128 | 317 => 127 | 318 => 129 | n => n, fun | 53 => 84 | 3 => 3 | 212 => 166 | 0 => 0 | 4 => 4 | 46 => 113 | 5 => 5 | 9 => 9 | n => n, fun | 17 => 2 | n => n⟩
theorem Tryz.laysM284 : Go.Proofs.LaysM.n284 Tryz.prog Tryz.laysM284_ren := {
  mixed := by kernel_rfl
  f129 := Tryz.func128.trans (congrArg some (by kernel_rfl))
  f284 := Tryz.func109.trans (congrArg some (by kernel_rfl))
  f317 := Tryz.func127.trans (congrArg some (by kernel_rfl))
  f318 := Tryz.func129.trans (congrArg some (by kernel_rfl))
  t0 := Tryz.underlying0
  a0 := Tryz.isAgg0
  z0 := Tryz.sizeOf0
  v0 := Tryz.zeroValue0
  t3 := Tryz.underlying3
  a3 := Tryz.isAgg3
  z3 := Tryz.sizeOf3
  v3 := Tryz.zeroValue3
  t4 := Tryz.underlying4
  a4 := Tryz.isAgg4
  z4 := Tryz.sizeOf4
  v4 := Tryz.zeroValue4
  t5 := Tryz.underlying5
  a5 := Tryz.isAgg5
  z5 := Tryz.sizeOf5
  v5 := Tryz.zeroValue5
  t9 := Tryz.underlying9
  a9 := Tryz.isAgg9
  z9 := Tryz.sizeOf9
  v9 := Tryz.zeroValue9
  t46 := Tryz.underlying113
  a46 := Tryz.isAgg113
  z46 := Tryz.sizeOf113
  v46 := Tryz.zeroValue113
  t53 := Tryz.underlying84
  a53 := Tryz.isAgg84
  z53 := Tryz.sizeOf84
  v53 := Tryz.zeroValue84
  t212 := Tryz.underlying166
  a212 := Tryz.isAgg166
  z212 := Tryz.sizeOf166
  v212 := Tryz.zeroValue166
  g17 := by kernel_rfl
  i0 := by kernel_rfl
  i3 := by kernel_rfl
  i4 := by kernel_rfl
  i5 := by kernel_rfl
  i9 := by kernel_rfl
  i46 := by kernel_rfl
  i53 := by kernel_rfl
  i212 := by kernel_rfl
  m17 := by kernel_rfl }
open Go.Lib in
theorem Tryz.internal_strconv_numDigits (u : Nat) (h1 : 1 ≤ u) (h2 : u < 18446744073709551616) (w : World) (htab : Lib.TabIs Tryz.prog w "internal/strconv.uint64pow10" .u64 Lib.pow10Tab) :
    Calls Tryz.prog 109 #[.int .u64 u] w fun e w' => e = .returned (.int .i64 (Lib.nDigits u)) ∧ w' = w := Any.internal_strconv_numDigits Tryz.laysM284 u h1 h2 w htab
def Tryz.lays285_ren : Go.Shelf.Ren := ⟨fun | 285 => 110 | n => n, fun | 37 => 51 | 53 => 84 | 3 => 3 | 4 => 4 | 51 => 167 | 9 => 9 | 5 => 5 | 0 => 0 | n => n, fun | n => n⟩
theorem Tryz.lays285 : Go.Proofs.Lays.n285 Tryz.prog Tryz.lays285_ren := {
  mixed := by kernel_rfl
  f285 := Tryz.func110.trans (congrArg some (by kernel_rfl))
  t0 := Tryz.underlying0
  a0 := Tryz.isAgg0
  z0 := Tryz.sizeOf0
  v0 := Tryz.zeroValue0
  t3 := Tryz.underlying3
  a3 := Tryz.isAgg3
  z3 := Tryz.sizeOf3
  v3 := Tryz.zeroValue3
  t4 := Tryz.underlying4
  a4 := Tryz.isAgg4
  z4 := Tryz.sizeOf4
  v4 := Tryz.zeroValue4
  t5 := Tryz.underlying5
  a5 := Tryz.isAgg5
  z5 := Tryz.sizeOf5
  v5 := Tryz.zeroValue5
  t9 := Tryz.underlying9
  a9 := Tryz.isAgg9
  z9 := Tryz.sizeOf9
  v9 := Tryz.zeroValue9
  t37 := Tryz.underlying51
  a37 := Tryz.isAgg51
  z37 := Tryz.sizeOf51
  v37 := Tryz.zeroValue51
  t51 := Tryz.underlying167
  a51 := Tryz.isAgg167
  z51 := Tryz.sizeOf167
  v51 := Tryz.zeroValue167
  t53 := Tryz.underlying84
  a53 := Tryz.isAgg84
  z53 := Tryz.sizeOf84
  v53 := Tryz.zeroValue84 }
open Go.RowKit Go.Sort Go.Lib in
theorem Tryz.internal_strconv_formatBase10 (blk off cap : Nat) (u : Nat) (d : Array UInt8) (w : World) (hH : Holds (fun (b : UInt8) => Value.int .u8 (b.toNat : Int)) w blk off d) (hu : u < 10 ^ d.size) (hu64 : u < 18446744073709551616) (hsz : d.size < 4611686018427387904) :
    Calls Tryz.prog 110 #[.slice (some ⟨blk, off, none⟩) d.size cap, .int .u64 u] w fun e w' =>
      e = .returned (.tuple #[]) ∧ ∃ (n v' : Nat) (dk : Array UInt8), w' = (putRow (fun (b : UInt8) => Value.int .u8 (b.toNat : Int)) w blk off dk).drewN n ∧ FmtInv d.size u 0 v' dk := Any.internal_strconv_formatBase10 Tryz.lays285 blk off cap u d w hH hu hu64 hsz
def Tryz.laysM246_ren : Go.Shelf.Ren := ⟨fun | 246 => 118 | 283 => 108 | 284 => 109 | 285 => 110 | 286 => 111 | 129 => 128 | 317 => 127 | 318 => 129 | 319 => 130 | 320 => 131 | 337 => 146 | 338 => 147 | n => n, fun | 2 => 2 | 3 => 3 | 9 => 9 | 4 => 4 | 171 => 149 | 0 => 0 | 53 => 84 | 37 => 51 | 5 => 5 | 173 => 152 | 212 => 166 | 51 => 167 | 20 => 20 | 213 => 168 | 46 => 113 | 232 => 184 | 233 => 185 | n => n, fun | 17 => 2 | 18 => 4 | 19 => 5 | n => n⟩
def Tryz.laysM243_ren : Go.Shelf.Ren := ⟨fun | 243 => 104 | 246 => 118 | 283 => 108 | 284 => 109 | 285 => 110 | 286 => 111 | 129 => 128 | 317 => 127 | 318 => 129 | 319 => 130 | 320 => 131 | 337 => 146 | 338 => 147 | n => n, fun | 3 => 3 | 9 => 9 | 2 => 2 | 4 => 4 | 171 => 149 | 0 => 0 | 53 => 84 | 37 => 51 | 5 => 5 | 173 => 152 | 212 => 166 | 51 => 167 | 20 => 20 | 213 => 168 | 46 => 113 | 232 => 184 | 233 => 185 | n => n, fun | 17 => 2 | 18 => 4 | 19 => 5 | n => n⟩
def Tryz.laysM171_ren : Go.Shelf.Ren := ⟨fun | 171 => 88 | 243 => 104 | 246 => 118 | 283 => 108 | 284 => 109 | 285 => 110 | 286 => 111 | 129 => 128 | 317 => 127 | 318 => 129 | 319 => 130 | 320 => 131 | 337 => 146 | 338 => 147 | n => n, fun | 3 => 3 | 9 => 9 | 2 => 2 | 4 => 4 | 171 => 149 | 0 => 0 | 53 => 84 | 37 => 51 | 5 => 5 | 173 => 152 | 212 => 166 | 51 => 167 | 20 => 20 | 213 => 168 | 46 => 113 | 232 => 184 | 233 => 185 | n => n, fun | 17 => 2 | 18 => 4 | 19 => 5 | n => n⟩
theorem Tryz.laysM171 : Go.Proofs.LaysM.n171 Tryz.prog Tryz.laysM171_ren := {
  mixed := by kernel_rfl
  f129 := Tryz.func128.trans (congrArg some (by kernel_rfl))
  f171 := Tryz.func88.trans (congrArg some (by kernel_rfl))
  f243 := Tryz.func104.trans (congrArg some (by kernel_rfl))
  f246 := Tryz.func118.trans (congrArg some (by kernel_rfl))
  f283 := Tryz.func108.trans (congrArg some (by kernel_rfl))
  f284 := Tryz.func109.trans (congrArg some (by kernel_rfl))
  f285 := Tryz.func110.trans (congrArg some (by kernel_rfl))
  f286 := Tryz.func111.trans (congrArg some (by kernel_rfl))
  f317 := Tryz.func127.trans (congrArg some (by kernel_rfl))
  f318 := Tryz.func129.trans (congrArg some (by kernel_rfl))
  f319 := Tryz.func130.trans (congrArg some (by kernel_rfl))
  f320 := Tryz.func131.trans (congrArg some (by kernel_rfl))
  f337 := Tryz.func146.trans (congrArg some (by kernel_rfl))
  f338 := Tryz.func147.trans (congrArg some (by kernel_rfl))
  t0 := Tryz.underlying0
  a0 := Tryz.isAgg0
  z0 := Tryz.sizeOf0
  v0 := Tryz.zeroValue0
  t2 := Tryz.underlying2
  a2 := Tryz.isAgg2
  z2 := Tryz.sizeOf2
  v2 := Tryz.zeroValue2
  t3 := Tryz.underlying3
  a3 := Tryz.isAgg3
  z3 := Tryz.sizeOf3
  v3 := Tryz.zeroValue3
  t4 := Tryz.underlying4
  a4 := Tryz.isAgg4
  z4 := Tryz.sizeOf4
  v4 := Tryz.zeroValue4
  t5 := Tryz.underlying5
  a5 := Tryz.isAgg5
  z5 := Tryz.sizeOf5
  v5 := Tryz.zeroValue5
  t9 := Tryz.underlying9
  a9 := Tryz.isAgg9
  z9 := Tryz.sizeOf9
  v9 := Tryz.zeroValue9
  t20 := Tryz.underlying20
  a20 := Tryz.isAgg20
  z20 := Tryz.sizeOf20
  v20 := Tryz.zeroValue20
  t37 := Tryz.underlying51
  a37 := Tryz.isAgg51
  z37 := Tryz.sizeOf51
  v37 := Tryz.zeroValue51
  t46 := Tryz.underlying113
  a46 := Tryz.isAgg113
  z46 := Tryz.sizeOf113
  v46 := Tryz.zeroValue113
  t51 := Tryz.underlying167
  a51 := Tryz.isAgg167
  z51 := Tryz.sizeOf167
  v51 := Tryz.zeroValue167
  t53 := Tryz.underlying84
  a53 := Tryz.isAgg84
  z53 := Tryz.sizeOf84
  v53 := Tryz.zeroValue84
  t171 := Tryz.underlying149
  a171 := Tryz.isAgg149
  z171 := Tryz.sizeOf149
  v171 := Tryz.zeroValue149
  t173 := Tryz.underlying152
  a173 := Tryz.isAgg152
  z173 := Tryz.sizeOf152
  v173 := Tryz.zeroValue152
  t212 := Tryz.underlying166
  a212 := Tryz.isAgg166
  z212 := Tryz.sizeOf166
  v212 := Tryz.zeroValue166
  t213 := Tryz.underlying168
  a213 := Tryz.isAgg168
  z213 := Tryz.sizeOf168
  t232 := Tryz.underlying184
  a232 := Tryz.isAgg184
  z232 := Tryz.sizeOf184
  v232 := Tryz.zeroValue184
  t233 := Tryz.underlying185
  a233 := Tryz.isAgg185
  z233 := Tryz.sizeOf185
  v233 := Tryz.zeroValue185
  g17 := by kernel_rfl
  g18 := by kernel_rfl
  g19 := by kernel_rfl
  i0 := by kernel_rfl
  i2 := by kernel_rfl
  i3 := by kernel_rfl
  i4 := by kernel_rfl
  i5 := by kernel_rfl
  i9 := by kernel_rfl
  i20 := by kernel_rfl
  i37 := by kernel_rfl
  i46 := by kernel_rfl
  i51 := by kernel_rfl
  i53 := by kernel_rfl
  i171 := by kernel_rfl
  i173 := by kernel_rfl
  i212 := by kernel_rfl
  i232 := by kernel_rfl
  i233 := by kernel_rfl
  m17 := by kernel_rfl
  m18 := by kernel_rfl
  m19 := by kernel_rfl }
open Go.RowKit Go.Sort Go.Lib in
theorem Tryz.strconv_Itoa (n : Int) (h0 : -9223372036854775808 ≤ n) (h1 : n ≤ 9223372036854775807) (w : World) (htab : Lib.TabIs Tryz.prog w "internal/strconv.uint64pow10" .u64 Lib.pow10Tab) :
    Calls Tryz.prog 88 #[.int .i64 n] w fun e w' => e = .returned (.string ⟨(Lib.itoa n).toArray⟩) ∧ ∃ k os, w' = grow (w.drewN k) os := Any.strconv_Itoa Tryz.laysM171 n h0 h1 w htab
def Tryz.lays219_ren : Go.Shelf.Ren := ⟨fun | 219 => 136 | 217 => 153 | 225 => 151 | 224 => 150 | 267 => 154 | 266 => 160 | 314 => 161 | n => n, fun | 9 => 9 | 3 => 3 | 4 => 4 | 5 => 5 | 46 => 113 | 146 => 186 | 51 => 167 | n => n, fun | 1 => 3 | n => n⟩
theorem Tryz.lays219 : Go.Proofs.Lays.n219 Tryz.prog Tryz.lays219_ren := {
  mixed := by kernel_rfl
  f217 := Tryz.func153.trans (congrArg some (by kernel_rfl))
  f219 := Tryz.func136.trans (congrArg some (by kernel_rfl))
  f224 := Tryz.func150.trans (congrArg some (by kernel_rfl))
  f225 := Tryz.func151.trans (congrArg some (by kernel_rfl))
  f266 := Tryz.func160.trans (congrArg some (by kernel_rfl))
  f267 := Tryz.func154.trans (congrArg some (by kernel_rfl))
  f314 := Tryz.func161.trans (congrArg some (by kernel_rfl))
  t3 := Tryz.underlying3
  a3 := Tryz.isAgg3
  z3 := Tryz.sizeOf3
  v3 := Tryz.zeroValue3
  t4 := Tryz.underlying4
  a4 := Tryz.isAgg4
  z4 := Tryz.sizeOf4
  v4 := Tryz.zeroValue4
  t5 := Tryz.underlying5
  a5 := Tryz.isAgg5
  z5 := Tryz.sizeOf5
  v5 := Tryz.zeroValue5
  t9 := Tryz.underlying9
  a9 := Tryz.isAgg9
  z9 := Tryz.sizeOf9
  v9 := Tryz.zeroValue9
  t46 := Tryz.underlying113
  a46 := Tryz.isAgg113
  z46 := Tryz.sizeOf113
  v46 := Tryz.zeroValue113
  t51 := Tryz.underlying167
  a51 := Tryz.isAgg167
  z51 := Tryz.sizeOf167
  v51 := Tryz.zeroValue167
  t146 := Tryz.underlying186
  a146 := Tryz.isAgg186
  z146 := Tryz.sizeOf186
  v146 := Tryz.zeroValue186
  g1 := by kernel_rfl }
open Go.RowKit Go.Lib in
theorem Tryz.stringslite_Index_one (s : ByteArray) (c : UInt8) (w : World) :
    Calls Tryz.prog 136 #[.string s, .string ⟨#[c]⟩] w fun e w' => e = .returned (.int .i64 (Lib.indexByte s.data.toList c)) ∧ w' = w := Any.stringslite_Index_one Tryz.lays219 s c w
def Tryz.lays144_ren : Go.Shelf.Ren := ⟨fun | 144 => 145 | 143 => 117 | 219 => 136 | 217 => 153 | 225 => 151 | 224 => 150 | 267 => 154 | 266 => 160 | 314 => 161 | n => n, fun | 9 => 9 | 4 => 4 | 3 => 3 | 5 => 5 | 46 => 113 | 146 => 186 | 51 => 167 | n => n, fun | 1 => 3 | n => n⟩
theorem Tryz.lays144 : Go.Proofs.Lays.n144 Tryz.prog Tryz.lays144_ren := {
  mixed := by kernel_rfl
  f143 := Tryz.func117.trans (congrArg some (by kernel_rfl))
  f144 := Tryz.func145.trans (congrArg some (by kernel_rfl))
  f217 := Tryz.func153.trans (congrArg some (by kernel_rfl))
  f219 := Tryz.func136.trans (congrArg some (by kernel_rfl))
  f224 := Tryz.func150.trans (congrArg some (by kernel_rfl))
  f225 := Tryz.func151.trans (congrArg some (by kernel_rfl))
  f266 := Tryz.func160.trans (congrArg some (by kernel_rfl))
  f267 := Tryz.func154.trans (congrArg some (by kernel_rfl))
  f314 := Tryz.func161.trans (congrArg some (by kernel_rfl))
  t3 := Tryz.underlying3
  a3 := Tryz.isAgg3
  z3 := Tryz.sizeOf3
  v3 := Tryz.zeroValue3
  t4 := Tryz.underlying4
  a4 := Tryz.isAgg4
  z4 := Tryz.sizeOf4
  v4 := Tryz.zeroValue4
  t5 := Tryz.underlying5
  a5 := Tryz.isAgg5
  z5 := Tryz.sizeOf5
  v5 := Tryz.zeroValue5
  t9 := Tryz.underlying9
  a9 := Tryz.isAgg9
  z9 := Tryz.sizeOf9
  v9 := Tryz.zeroValue9
  t46 := Tryz.underlying113
  a46 := Tryz.isAgg113
  z46 := Tryz.sizeOf113
  v46 := Tryz.zeroValue113
  t51 := Tryz.underlying167
  a51 := Tryz.isAgg167
  z51 := Tryz.sizeOf167
  v51 := Tryz.zeroValue167
  t146 := Tryz.underlying186
  a146 := Tryz.isAgg186
  z146 := Tryz.sizeOf186
  v146 := Tryz.zeroValue186
  g1 := by kernel_rfl }
open Go.RowKit Go.Lib in
theorem Tryz.strings_Contains_one (s : ByteArray) (c : UInt8) (w : World) :
    Calls Tryz.prog 145 #[.string s, .string ⟨#[c]⟩] w fun e w' => e = .returned (.bool (decide (0 ≤ Lib.indexByte s.data.toList c))) ∧ w' = w := Any.strings_Contains_one Tryz.lays144 s c w
def Tryz.lays206_ren : Go.Shelf.Ren := ⟨fun | 206 => 159 | n => n, fun | 9 => 9 | 4 => 4 | 3 => 3 | n => n, fun | n => n⟩
def Tryz.lays99_ren : Go.Shelf.Ren := ⟨fun | 99 => 144 | 206 => 159 | n => n, fun | 9 => 9 | 4 => 4 | 3 => 3 | n => n, fun | n => n⟩
theorem Tryz.lays99 : Go.Proofs.Lays.n99 Tryz.prog Tryz.lays99_ren := {
  mixed := by kernel_rfl
  f99 := Tryz.func144.trans (congrArg some (by kernel_rfl))
  f206 := Tryz.func159.trans (congrArg some (by kernel_rfl))
  t3 := Tryz.underlying3
  a3 := Tryz.isAgg3
  z3 := Tryz.sizeOf3
  v3 := Tryz.zeroValue3
  t4 := Tryz.underlying4
  a4 := Tryz.isAgg4
  z4 := Tryz.sizeOf4
  v4 := Tryz.zeroValue4
  t9 := Tryz.underlying9
  a9 := Tryz.isAgg9
  z9 := Tryz.sizeOf9
  v9 := Tryz.zeroValue9 }
open Go.RowKit Go.Lib in
theorem Tryz.strings_HasPrefix (s p : ByteArray) (w : World) :
    Calls Tryz.prog 144 #[.string s, .string p] w fun e w' => e = .returned (.bool (Lib.hasPrefix s.data.toList p.data.toList)) ∧ w' = w := Any.strings_HasPrefix Tryz.lays99 s p w
def Tryz.lays154_ren : Go.Shelf.Ren := ⟨fun | 154 => 103 | 138 => 115 | 165 => 116 | 143 => 117 | 166 => 56 | 197 => 94 | 169 => 33 | 195 => 126 | 218 => 134 | 240 => 81 | 241 => 135 | 219 => 136 | 260 => 105 | 276 => 97 | 277 => 152 | 217 => 153 | 225 => 151 | 224 => 150 | 267 => 154 | 266 => 160 | 314 => 161 | n => n, fun | 9 => 9 | 3 => 3 | 4 => 4 | 72 => 72 | 0 => 0 | 76 => 101 | 105 => 127 | 21 => 21 | 5 => 5 | 70 => 70 | 20 => 20 | 37 => 51 | 75 => 100 | 127 => 108 | 164 => 135 | 46 => 113 | 119 => 158 | 139 => 161 | 138 => 160 | 146 => 186 | 51 => 167 | 80 => 56 | n => n, fun | 1 => 3 | 3 => 0 | 4 => 1 | n => n⟩
def Tryz.lays155_ren : Go.Shelf.Ren := ⟨fun | 155 => 85 | 154 => 103 | 138 => 115 | 165 => 116 | 143 => 117 | 166 => 56 | 197 => 94 | 169 => 33 | 195 => 126 | 218 => 134 | 240 => 81 | 241 => 135 | 219 => 136 | 260 => 105 | 276 => 97 | 277 => 152 | 217 => 153 | 225 => 151 | 224 => 150 | 267 => 154 | 266 => 160 | 314 => 161 | n => n, fun | 9 => 9 | 3 => 3 | 4 => 4 | 72 => 72 | 0 => 0 | 76 => 101 | 105 => 127 | 21 => 21 | 5 => 5 | 70 => 70 | 20 => 20 | 37 => 51 | 75 => 100 | 127 => 108 | 164 => 135 | 46 => 113 | 119 => 158 | 139 => 161 | 138 => 160 | 146 => 186 | 51 => 167 | 80 => 56 | n => n, fun | 1 => 3 | 3 => 0 | 4 => 1 | n => n⟩
theorem Tryz.lays155 : Go.Proofs.Lays.n155 Tryz.prog Tryz.lays155_ren := {
  mixed := by kernel_rfl
  f138 := Tryz.func115.trans (congrArg some (by kernel_rfl))
  f143 := Tryz.func117.trans (congrArg some (by kernel_rfl))
  f154 := Tryz.func103.trans (congrArg some (by kernel_rfl))
  f155 := Tryz.func85.trans (congrArg some (by kernel_rfl))
  f165 := Tryz.func116.trans (congrArg some (by kernel_rfl))
  f166 := Tryz.func56.trans (congrArg some (by kernel_rfl))
  f169 := Tryz.func33.trans (congrArg some (by kernel_rfl))
  f195 := Tryz.func126.trans (congrArg some (by kernel_rfl))
  f197 := Tryz.func94.trans (congrArg some (by kernel_rfl))
  f217 := Tryz.func153.trans (congrArg some (by kernel_rfl))
  f218 := Tryz.func134.trans (congrArg some (by kernel_rfl))
  f219 := Tryz.func136.trans (congrArg some (by kernel_rfl))
  f224 := Tryz.func150.trans (congrArg some (by kernel_rfl))
  f225 := Tryz.func151.trans (congrArg some (by kernel_rfl))
  f240 := Tryz.func81.trans (congrArg some (by kernel_rfl))
  f241 := Tryz.func135.trans (congrArg some (by kernel_rfl))
  f260 := Tryz.func105.trans (congrArg some (by kernel_rfl))
  f266 := Tryz.func160.trans (congrArg some (by kernel_rfl))
  f267 := Tryz.func154.trans (congrArg some (by kernel_rfl))
  f276 := Tryz.func97.trans (congrArg some (by kernel_rfl))
  f277 := Tryz.func152.trans (congrArg some (by kernel_rfl))
  f314 := Tryz.func161.trans (congrArg some (by kernel_rfl))
  t0 := Tryz.underlying0
  a0 := Tryz.isAgg0
  z0 := Tryz.sizeOf0
  v0 := Tryz.zeroValue0
  t3 := Tryz.underlying3
  a3 := Tryz.isAgg3
  z3 := Tryz.sizeOf3
  v3 := Tryz.zeroValue3
  t4 := Tryz.underlying4
  a4 := Tryz.isAgg4
  z4 := Tryz.sizeOf4
  v4 := Tryz.zeroValue4
  t5 := Tryz.underlying5
  a5 := Tryz.isAgg5
  z5 := Tryz.sizeOf5
  v5 := Tryz.zeroValue5
  t9 := Tryz.underlying9
  a9 := Tryz.isAgg9
  z9 := Tryz.sizeOf9
  v9 := Tryz.zeroValue9
  t20 := Tryz.underlying20
  a20 := Tryz.isAgg20
  z20 := Tryz.sizeOf20
  v20 := Tryz.zeroValue20
  t21 := Tryz.underlying21
  a21 := Tryz.isAgg21
  z21 := Tryz.sizeOf21
  v21 := Tryz.zeroValue21
  t37 := Tryz.underlying51
  a37 := Tryz.isAgg51
  z37 := Tryz.sizeOf51
  v37 := Tryz.zeroValue51
  t46 := Tryz.underlying113
  a46 := Tryz.isAgg113
  z46 := Tryz.sizeOf113
  v46 := Tryz.zeroValue113
  t51 := Tryz.underlying167
  a51 := Tryz.isAgg167
  z51 := Tryz.sizeOf167
  v51 := Tryz.zeroValue167
  t70 := Tryz.underlying70
  a70 := Tryz.isAgg70
  z70 := Tryz.sizeOf70
  v70 := Tryz.zeroValue70
  t72 := Tryz.underlying72
  a72 := Tryz.isAgg72
  z72 := Tryz.sizeOf72
  v72 := Tryz.zeroValue72
  t75 := Tryz.underlying100
  a75 := Tryz.isAgg100
  z75 := Tryz.sizeOf100
  v75 := Tryz.zeroValue100
  t76 := Tryz.underlying101
  a76 := Tryz.isAgg101
  z76 := Tryz.sizeOf101
  v76 := Tryz.zeroValue101
  t105 := Tryz.underlying127
  a105 := Tryz.isAgg127
  z105 := Tryz.sizeOf127
  v105 := Tryz.zeroValue127
  t119 := Tryz.underlying158
  a119 := Tryz.isAgg158
  z119 := Tryz.sizeOf158
  t127 := Tryz.underlying108
  a127 := Tryz.isAgg108
  z127 := Tryz.sizeOf108
  v127 := Tryz.zeroValue108
  t138 := Tryz.underlying160
  a138 := Tryz.isAgg160
  z138 := Tryz.sizeOf160
  v138 := Tryz.zeroValue160
  t139 := Tryz.underlying161
  a139 := Tryz.isAgg161
  z139 := Tryz.sizeOf161
  v139 := Tryz.zeroValue161
  t146 := Tryz.underlying186
  a146 := Tryz.isAgg186
  z146 := Tryz.sizeOf186
  v146 := Tryz.zeroValue186
  t164 := Tryz.underlying135
  a164 := Tryz.isAgg135
  z164 := Tryz.sizeOf135
  v164 := Tryz.zeroValue135
  g1 := by kernel_rfl
  g3 := by kernel_rfl
  g4 := by kernel_rfl }
theorem Tryz.Builder_Extra_155 : Builder.Extra Tryz.prog Tryz.lays155_ren := {
  sizeBuilder := by kernel_rfl
  liesBuilder := by kernel_rfl
  t5 := Tryz.underlying5
  a5 := Tryz.isAgg5
  z5 := Tryz.sizeOf5
  v5 := Tryz.zeroValue5
  infoByte := by kernel_rfl
  cellsByte := by kernel_rfl
  sizeByte := by kernel_rfl
  neB5 := by decide }
open Go.RowKit Go.Lib in
theorem Tryz.strings_ReplaceAll (s old new : ByteArray) (m : Int) (w : World) (hs : s.size < 4294967281) (hm : w.cell? ⟨3, 0, none⟩ = some (.int .i64 m)) (h1 : 1 ≤ old.size) (hlen : s.size + Lib.countB s old * new.size ≤ 140737488355328) :
    Calls Tryz.prog 85 #[.string s, .string old, .string new] w fun e w' =>
      e = .returned (.string ⟨(Lib.replaceAll s.data.toList old.data.toList new.data.toList).toArray⟩) ∧ Below w.heap.size w w' := Any.strings_ReplaceAll Tryz.lays155 Tryz.Builder_Extra_155 s old new m w hs hm h1 hlen
def Tryz.laysM155_ren : Go.Shelf.Ren := ⟨fun | 155 => 85 | 154 => 103 | 138 => 115 | 165 => 116 | 143 => 117 | 166 => 56 | 197 => 94 | 169 => 33 | 195 => 126 | 218 => 134 | 240 => 81 | 241 => 135 | 219 => 136 | 260 => 105 | 276 => 97 | 277 => 152 | 217 => 153 | 225 => 151 | 224 => 150 | 267 => 154 | 266 => 160 | 314 => 161 | n => n, fun | 9 => 9 | 3 => 3 | 4 => 4 | 72 => 72 | 0 => 0 | 76 => 101 | 105 => 127 | 21 => 21 | 5 => 5 | 70 => 70 | 20 => 20 | 37 => 51 | 75 => 100 | 127 => 108 | 164 => 135 | 46 => 113 | 119 => 158 | 139 => 161 | 138 => 160 | 146 => 186 | 51 => 167 | 80 => 56 | n => n, fun | 1 => 3 | 3 => 0 | 4 => 1 | n => n⟩
theorem Tryz.laysM155 : Go.Proofs.LaysM.n155 Tryz.prog Tryz.laysM155_ren := {
  mixed := by kernel_rfl
  f138 := Tryz.func115.trans (congrArg some (by kernel_rfl))
  f143 := Tryz.func117.trans (congrArg some (by kernel_rfl))
  f154 := Tryz.func103.trans (congrArg some (by kernel_rfl))
  f155 := Tryz.func85.trans (congrArg some (by kernel_rfl))
  f165 := Tryz.func116.trans (congrArg some (by kernel_rfl))
  f166 := Tryz.func56.trans (congrArg some (by kernel_rfl))
  f169 := Tryz.func33.trans (congrArg some (by kernel_rfl))
  f195 := Tryz.func126.trans (congrArg some (by kernel_rfl))
  f197 := Tryz.func94.trans (congrArg some (by kernel_rfl))
  f217 := Tryz.func153.trans (congrArg some (by kernel_rfl))
  f218 := Tryz.func134.trans (congrArg some (by kernel_rfl))
  f219 := Tryz.func136.trans (congrArg some (by kernel_rfl))
  f224 := Tryz.func150.trans (congrArg some (by kernel_rfl))
  f225 := Tryz.func151.trans (congrArg some (by kernel_rfl))
  f240 := Tryz.func81.trans (congrArg some (by kernel_rfl))
  f241 := Tryz.func135.trans (congrArg some (by kernel_rfl))
  f260 := Tryz.func105.trans (congrArg some (by kernel_rfl))
  f266 := Tryz.func160.trans (congrArg some (by kernel_rfl))
  f267 := Tryz.func154.trans (congrArg some (by kernel_rfl))
  f276 := Tryz.func97.trans (congrArg some (by kernel_rfl))
  f277 := Tryz.func152.trans (congrArg some (by kernel_rfl))
  f314 := Tryz.func161.trans (congrArg some (by kernel_rfl))
  t0 := Tryz.underlying0
  a0 := Tryz.isAgg0
  z0 := Tryz.sizeOf0
  v0 := Tryz.zeroValue0
  t3 := Tryz.underlying3
  a3 := Tryz.isAgg3
  z3 := Tryz.sizeOf3
  v3 := Tryz.zeroValue3
  t4 := Tryz.underlying4
  a4 := Tryz.isAgg4
  z4 := Tryz.sizeOf4
  v4 := Tryz.zeroValue4
  t5 := Tryz.underlying5
  a5 := Tryz.isAgg5
  z5 := Tryz.sizeOf5
  v5 := Tryz.zeroValue5
  t9 := Tryz.underlying9
  a9 := Tryz.isAgg9
  z9 := Tryz.sizeOf9
  v9 := Tryz.zeroValue9
  t20 := Tryz.underlying20
  a20 := Tryz.isAgg20
  z20 := Tryz.sizeOf20
  v20 := Tryz.zeroValue20
  t21 := Tryz.underlying21
  a21 := Tryz.isAgg21
  z21 := Tryz.sizeOf21
  v21 := Tryz.zeroValue21
  t37 := Tryz.underlying51
  a37 := Tryz.isAgg51
  z37 := Tryz.sizeOf51
  v37 := Tryz.zeroValue51
  t46 := Tryz.underlying113
  a46 := Tryz.isAgg113
  z46 := Tryz.sizeOf113
  v46 := Tryz.zeroValue113
  t51 := Tryz.underlying167
  a51 := Tryz.isAgg167
  z51 := Tryz.sizeOf167
  v51 := Tryz.zeroValue167
  t70 := Tryz.underlying70
  a70 := Tryz.isAgg70
  z70 := Tryz.sizeOf70
  v70 := Tryz.zeroValue70
  t72 := Tryz.underlying72
  a72 := Tryz.isAgg72
  z72 := Tryz.sizeOf72
  v72 := Tryz.zeroValue72
  t75 := Tryz.underlying100
  a75 := Tryz.isAgg100
  z75 := Tryz.sizeOf100
  v75 := Tryz.zeroValue100
  t76 := Tryz.underlying101
  a76 := Tryz.isAgg101
  z76 := Tryz.sizeOf101
  v76 := Tryz.zeroValue101
  t105 := Tryz.underlying127
  a105 := Tryz.isAgg127
  z105 := Tryz.sizeOf127
  v105 := Tryz.zeroValue127
  t119 := Tryz.underlying158
  a119 := Tryz.isAgg158
  z119 := Tryz.sizeOf158
  t127 := Tryz.underlying108
  a127 := Tryz.isAgg108
  z127 := Tryz.sizeOf108
  v127 := Tryz.zeroValue108
  t138 := Tryz.underlying160
  a138 := Tryz.isAgg160
  z138 := Tryz.sizeOf160
  v138 := Tryz.zeroValue160
  t139 := Tryz.underlying161
  a139 := Tryz.isAgg161
  z139 := Tryz.sizeOf161
  v139 := Tryz.zeroValue161
  t146 := Tryz.underlying186
  a146 := Tryz.isAgg186
  z146 := Tryz.sizeOf186
  v146 := Tryz.zeroValue186
  t164 := Tryz.underlying135
  a164 := Tryz.isAgg135
  z164 := Tryz.sizeOf135
  v164 := Tryz.zeroValue135
  g1 := by kernel_rfl
  g3 := by kernel_rfl
  g4 := by kernel_rfl
  t80 := Tryz.underlying56
  a80 := Tryz.isAgg56
  z80 := Tryz.sizeOf56
  v80 := Tryz.zeroValue56
  i0 := by kernel_rfl
  i3 := by kernel_rfl
  i4 := by kernel_rfl
  i5 := by kernel_rfl
  i9 := by kernel_rfl
  i20 := by kernel_rfl
  i21 := by kernel_rfl
  i37 := by kernel_rfl
  i46 := by kernel_rfl
  i51 := by kernel_rfl
  i70 := by kernel_rfl
  i72 := by kernel_rfl
  i75 := by kernel_rfl
  i76 := by kernel_rfl
  i80 := by kernel_rfl
  i105 := by kernel_rfl
  i127 := by kernel_rfl
  i138 := by kernel_rfl
  i139 := by kernel_rfl
  i146 := by kernel_rfl
  i164 := by kernel_rfl
  m1 := by kernel_rfl
  s1_3 := fun w h => Go.Proofs.cell_of_shapedOpen_int (zero := #[.int .i64 0]) (t := 3) h (of_decide_eq_true (by kernel_rfl)) (by kernel_rfl) rfl (by kernel_rfl) (by kernel_rfl) Tryz.underlying3
  m3 := by kernel_rfl
  m4 := by kernel_rfl }
def Tryz.lays260_ren : Go.Shelf.Ren := ⟨fun | 260 => 105 | n => n, fun | 9 => 9 | 21 => 21 | 3 => 3 | 4 => 4 | 5 => 5 | 119 => 158 | 0 => 0 | 46 => 113 | 139 => 161 | 138 => 160 | n => n, fun | 3 => 0 | 4 => 1 | n => n⟩
theorem Tryz.lays260 : Go.Proofs.Lays.n260 Tryz.prog Tryz.lays260_ren := {
  mixed := by kernel_rfl
  f260 := Tryz.func105.trans (congrArg some (by kernel_rfl))
  t0 := Tryz.underlying0
  a0 := Tryz.isAgg0
  z0 := Tryz.sizeOf0
  v0 := Tryz.zeroValue0
  t3 := Tryz.underlying3
  a3 := Tryz.isAgg3
  z3 := Tryz.sizeOf3
  v3 := Tryz.zeroValue3
  t4 := Tryz.underlying4
  a4 := Tryz.isAgg4
  z4 := Tryz.sizeOf4
  v4 := Tryz.zeroValue4
  t5 := Tryz.underlying5
  a5 := Tryz.isAgg5
  z5 := Tryz.sizeOf5
  v5 := Tryz.zeroValue5
  t9 := Tryz.underlying9
  a9 := Tryz.isAgg9
  z9 := Tryz.sizeOf9
  v9 := Tryz.zeroValue9
  t21 := Tryz.underlying21
  a21 := Tryz.isAgg21
  z21 := Tryz.sizeOf21
  v21 := Tryz.zeroValue21
  t46 := Tryz.underlying113
  a46 := Tryz.isAgg113
  z46 := Tryz.sizeOf113
  v46 := Tryz.zeroValue113
  t119 := Tryz.underlying158
  a119 := Tryz.isAgg158
  z119 := Tryz.sizeOf158
  t138 := Tryz.underlying160
  a138 := Tryz.isAgg160
  z138 := Tryz.sizeOf160
  v138 := Tryz.zeroValue160
  t139 := Tryz.underlying161
  a139 := Tryz.isAgg161
  z139 := Tryz.sizeOf161
  v139 := Tryz.zeroValue161
  g3 := by kernel_rfl
  g4 := by kernel_rfl }
def Tryz.lays197_ren : Go.Shelf.Ren := ⟨fun | 197 => 94 | 260 => 105 | n => n, fun | 9 => 9 | 21 => 21 | 3 => 3 | 4 => 4 | 5 => 5 | 105 => 127 | 119 => 158 | 0 => 0 | 46 => 113 | 139 => 161 | 138 => 160 | n => n, fun | 3 => 0 | 4 => 1 | n => n⟩
theorem Tryz.lays197 : Go.Proofs.Lays.n197 Tryz.prog Tryz.lays197_ren := {
  mixed := by kernel_rfl
  f197 := Tryz.func94.trans (congrArg some (by kernel_rfl))
  f260 := Tryz.func105.trans (congrArg some (by kernel_rfl))
  t0 := Tryz.underlying0
  a0 := Tryz.isAgg0
  z0 := Tryz.sizeOf0
  v0 := Tryz.zeroValue0
  t3 := Tryz.underlying3
  a3 := Tryz.isAgg3
  z3 := Tryz.sizeOf3
  v3 := Tryz.zeroValue3
  t4 := Tryz.underlying4
  a4 := Tryz.isAgg4
  z4 := Tryz.sizeOf4
  v4 := Tryz.zeroValue4
  t5 := Tryz.underlying5
  a5 := Tryz.isAgg5
  z5 := Tryz.sizeOf5
  v5 := Tryz.zeroValue5
  t9 := Tryz.underlying9
  a9 := Tryz.isAgg9
  z9 := Tryz.sizeOf9
  v9 := Tryz.zeroValue9
  t21 := Tryz.underlying21
  a21 := Tryz.isAgg21
  z21 := Tryz.sizeOf21
  v21 := Tryz.zeroValue21
  t46 := Tryz.underlying113
  a46 := Tryz.isAgg113
  z46 := Tryz.sizeOf113
  v46 := Tryz.zeroValue113
  t105 := Tryz.underlying127
  a105 := Tryz.isAgg127
  z105 := Tryz.sizeOf127
  v105 := Tryz.zeroValue127
  t119 := Tryz.underlying158
  a119 := Tryz.isAgg158
  z119 := Tryz.sizeOf158
  t138 := Tryz.underlying160
  a138 := Tryz.isAgg160
  z138 := Tryz.sizeOf160
  v138 := Tryz.zeroValue160
  t139 := Tryz.underlying161
  a139 := Tryz.isAgg161
  z139 := Tryz.sizeOf161
  v139 := Tryz.zeroValue161
  g3 := by kernel_rfl
  g4 := by kernel_rfl }
open Go.RowKit Go.Lib in
theorem Tryz.utf8_DecodeRuneInString (s : ByteArray) (w : World) (hT : Lib.Utf8Tabs 0 1 w) :
    Calls Tryz.prog 94 #[.string s] w fun e w' => e = .returned (.tuple #[.int .i32 (Lib.decodeGo s).1, .int .i64 (Lib.decodeGo s).2]) ∧ Below w.heap.size w w' := Any.utf8_DecodeRuneInString Tryz.lays197 s w hT
end Go.Proofs
namespace Go.A
open Go.Proofs
set_option linter.unusedSimpArgs false
set_option linter.unusedVariables false
section
variable {P : Program} {σ : ASt} {w : World}
theorem reps_ints {k : IntKind} : ∀ {zs : List Int} {vs : List Value}, Reps σ w (zs.map (AV.int k)) vs → vs = zs.map (Value.int k)
  | [], vs, h => by cases h; rfl
  | z :: zs, vs, h => by
    cases h with
    | cons h1 h2 =>
      cases h1
      rw [reps_ints h2]
      rfl
theorem tabIs_of (hs : Sim σ w) {name : String} {b : Nat} {k : IntKind} {zs : List Int} (hg : P.globalNamed name = some b) (hb : σ b = some (.fix (zs.map (AV.int k)))) : Lib.TabIs P w name k zs := by
  obtain ⟨h1, c, T, fr, h2, h3⟩ := hs b _ hb
  obtain ⟨vs, h4, h5⟩ := h1.vals
  have h6 := reps_ints h4
  subst h6
  unfold Lib.TabIs World.var?
  rw [hg, Option.bind_some]
  simp only [h2]
  congr 1
  apply Array.ext
  · simp [h3]
  · intro j hj hj'
    have h7 := h5 j (Value.int k (zs[j]'(by simpa using hj'))) (by simp)
    simp only [World.cell?, h2, Nat.zero_add] at h7
    simp at h7 ⊢
    obtain ⟨_, h7⟩ := Array.getElem?_eq_some_iff.1 h7
    exact h7
theorem ACalls.of_ext {f : FuncId} {args : List AV} {r : AV} {u : Value} (h : ∀ w vs, Sim σ w → Reps σ w args vs → Calls P f ⟨vs⟩ w fun e w' => e = .returned u ∧ Ext w w') (hr : ∀ w, Rep σ w r u) : ACalls P f args σ fun v σ' => v = r ∧ σ' = σ :=
  fun w vs hs ha => (h w vs hs ha).mono fun e w' ⟨he, hx⟩ => ⟨u, r, σ, he, ⟨rfl, rfl⟩, ext_le hx, hs.ext hx, hr w'⟩
theorem ext_grow (w : World) (k : Nat) (os : Array Obj) : Ext w (Go.Sort.grow (w.drewN k) os) := ⟨⟨os, w.drawn + k⟩, rfl⟩
end
theorem Ext.of_eq {w w' : World} (h : w' = w) : Ext w w' := h ▸ Ext.refl w
def Tab (σ : ASt) : Prop := σ 2 = some (.fix (Lib.pow10Tab.map (AV.int .u64)))
theorem Tab.set {σ : ASt} {b : Nat} {r : Option Role} (h : Tab σ) (hb : σ b = none) : Tab (σ.set b r) := by
  unfold Tab at *
  rw [ASt.set_ne]
  · exact h
  · intro e; rw [← e, h] at hb; cases hb
end Go.A
namespace Go.A
open Go.Proofs
theorem itoa_ok {σ : ASt} (h : Tab σ) {n : Int} (h0 : -9223372036854775808 ≤ n) (h1 : n ≤ 9223372036854775807) : ACalls Tryz.prog 88 [.int .i64 n] σ fun v σ' => v = .str (Lib.itoa n) ∧ σ' = σ := by
  refine ACalls.of_ext (u := .string ⟨(Lib.itoa n).toArray⟩) (fun w vs hs ha => ?_) fun w => .str _
  cases ha with
  | cons h2 h3 =>
    cases h2; cases h3
    refine (Tryz.strconv_Itoa n h0 h1 w (tabIs_of hs (by kernel_rfl) h)).mono ?_
    rintro e w' ⟨he, k, os, rfl⟩
    exact ⟨he, ext_grow w k os⟩
end Go.A
namespace Go.A
open Go.Proofs Go.Lib
set_option maxRecDepth 100000
set_option linter.unusedSimpArgs false
set_option linter.unusedVariables false
def accTab : List Int := (List.range 16).flatMap fun i => [(accLo i : Int), (accHi i : Int)]
def U8 (σ : ASt) : Prop := σ 0 = some (.fix (firstTab.map (AV.int .u8))) ∧ σ 1 = some (.fix (accTab.map (AV.int .u8)))
theorem U8.of_eq {σ σ' : ASt} (h : U8 σ) (h1 : σ' 0 = σ 0) (h2 : σ' 1 = σ 1) : U8 σ' := ⟨h1.trans h.1, h2.trans h.2⟩
theorem U8.set {σ : ASt} {b : Nat} {r : Option Role} (h : U8 σ) (hb : σ b = none) : U8 (σ.set b r) := by
  refine h.of_eq (ASt.set_ne ?_) (ASt.set_ne ?_) <;> rintro rfl
  · rw [h.1] at hb; cases hb
  · rw [h.2] at hb; cases hb
theorem fix_ints {σ : ASt} {w : World} (hs : Sim σ w) {b : Nat} {k : IntKind} {zs : List Int} (h : σ b = some (.fix (zs.map (AV.int k)))) : ∀ j z, zs[j]? = some z → w.cell? ⟨b, j, none⟩ = some (.int k z) := by
  intro j z hj
  obtain ⟨vs, h4, h5⟩ := (hs b _ h).1.vals
  have h6 := reps_ints h4
  subst h6
  have := h5 j (Value.int k z) (by simp [hj])
  simpa using this
theorem u8_tabs {σ : ASt} {w : World} (hs : Sim σ w) (h : U8 σ) : Utf8Tabs 0 1 w := by
  refine ⟨fun c hc => fix_ints hs h.1 c _ (by simp [firstTab, hc]), fun i hi => ?_⟩
  have key : ∀ i, i < 16 → accTab[2 * i]? = some (accLo i : Int) ∧ accTab[2 * i + 1]? = some (accHi i : Int) := by decide
  exact ⟨fix_ints hs h.2 _ _ (key i hi).1, fix_ints hs h.2 _ _ (key i hi).2⟩
theorem ACalls.of_below {P : Program} {σ : ASt} {f : FuncId} {args : List AV} {r : AV} {u : Value} (h : ∀ w vs, Sim σ w → Reps σ w args vs → Calls P f ⟨vs⟩ w fun e w' => e = .returned u ∧ RowKit.Below w.heap.size w w') (hr : ∀ w, Rep σ w r u) : ACalls P f args σ fun v σ' => v = r ∧ σ' = σ :=
  ACalls.of_ext (fun w vs hs ha => (h w vs hs ha).mono fun e w' ⟨he, hb⟩ => ⟨he, Ext.of_below hb⟩) hr
theorem dec_ok {σ : ASt} (h : U8 σ) {l : List UInt8} (h0 : l ≠ []) : ACalls Tryz.prog 94 [.str l] σ fun v σ' => v = .tuple [.int .i32 (decodeL l).1, .int .i64 (decodeL l).2] ∧ σ' = σ := by
  refine ACalls.of_below (u := .tuple #[.int .i32 (decodeL l).1, .int .i64 (decodeL l).2]) (fun w vs hs ha => ?_) fun w => .tuple (.cons (.int _ _) (.cons (.int _ _) .nil))
  cases ha with
  | cons h1 h2 =>
  cases h1; cases h2
  have := Tryz.utf8_DecodeRuneInString ⟨⟨l⟩⟩ w (u8_tabs hs h)
  have e : decodeGo ⟨⟨l⟩⟩ = decodeL l := by
    unfold decodeGo decodeL
    rw [if_neg (by cases l; exact absurd rfl h0; simp [ByteArray.size])]
  rw [e] at this
  exact this
theorem count_ok (l : List UInt8) (hl : l.length < 9223372036854775807) : Pure Tryz.prog 126 [.str l] (.int .i64 (signsN l)) := by
  intro σ
  refine ACalls.of_ext (u := .int .i64 (signsN l)) (fun w vs hs ha => ?_) fun w => .int _ _
  cases ha with
  | cons h1 h2 =>
  cases h1; cases h2
  refine (Tryz.utf8_RuneCountInString ⟨⟨l⟩⟩ w (by simpa [ByteArray.size] using hl)).mono ?_
  rintro e w' ⟨rfl, pos, rfl⟩
  exact ⟨rfl, Ext.alloc (Ext.refl w) _⟩
theorem runeLen_ok (r : Int) : Pure Tryz.prog 142 [.int .i32 r] (.int .i64 (runeLen r)) := by
  intro σ
  refine ACalls.of_ext (u := .int .i64 (runeLen r)) (fun w vs hs ha => ?_) fun w => .int _ _
  cases ha with
  | cons h1 h2 =>
  cases h1; cases h2
  exact (Tryz.utf8_RuneLen r w).mono fun e w' ⟨he, hw⟩ => ⟨he, Ext.of_eq hw⟩
theorem prefix_ok (s p : List UInt8) (hs : s.length ≤ 1000000000) (hp : p.length ≤ 1000000000) : Pure Tryz.prog 144 [.str s, .str p] (.bool (p.isPrefixOf s)) := by
  intro σ
  refine ACalls.of_ext (u := .bool (p.isPrefixOf s)) (fun w vs hs ha => ?_) fun w => .bool _
  cases ha with
  | cons h1 h2 =>
  cases h2 with
  | cons h2 h3 =>
  cases h1; cases h2; cases h3
  refine (Tryz.strings_HasPrefix ⟨⟨s⟩⟩ ⟨⟨p⟩⟩ w).mono fun e w' ⟨he, hw⟩ => ⟨?_, Ext.of_eq hw⟩
  rw [he]
  rfl
theorem contains_ok (s : List UInt8) (c : UInt8) : Pure Tryz.prog 145 [.str s, .str [c]] (.bool (decide (0 ≤ indexByte s c))) := by
  intro σ
  refine ACalls.of_ext (u := .bool (decide (0 ≤ indexByte s c))) (fun w vs hs ha => ?_) fun w => .bool _
  cases ha with
  | cons h1 h2 =>
  cases h2 with
  | cons h2 h3 =>
  cases h1; cases h2; cases h3
  exact (Tryz.strings_Contains_one ⟨⟨s⟩⟩ c w).mono fun e w' ⟨he, hw⟩ => ⟨he, Ext.of_eq hw⟩
theorem index_ok (s : List UInt8) (c : UInt8) : Pure Tryz.prog 136 [.str s, .str [c]] (.int .i64 (indexByte s c)) := by
  intro σ
  refine ACalls.of_ext (u := .int .i64 (indexByte s c)) (fun w vs hs ha => ?_) fun w => .int _ _
  cases ha with
  | cons h1 h2 =>
  cases h2 with
  | cons h2 h3 =>
  cases h1; cases h2; cases h3
  exact (Tryz.stringslite_Index_one ⟨⟨s⟩⟩ c w).mono fun e w' ⟨he, hw⟩ => ⟨he, Ext.of_eq hw⟩
end Go.A
namespace Go.A
open Go.Proofs Go.Shelf Go.RowKit
set_option linter.unusedSimpArgs false
set_option linter.unusedVariables false
section
variable {P : Program} {ρ : Ren}
set_option maxHeartbeats 2000000 in
set_option maxRecDepth 100000 in
theorem bstr_used (L : Lays.n169 P ρ) (X : Builder.Extra P ρ) (b g cap size : Nat) (l : List UInt8) (w : World) (h0 : l ≠ []) (hc1 : w.cell? ⟨b, 1, none⟩ = some (.slice (some ⟨g, 0, none⟩) l.length cap)) (hcap : cap ≠ 0)
    (hsh : w.shape? g = some (ρ.t 5, size)) (hle : l.length ≤ size) (h63 : l.length ≤ 9223372036854775807) (hcell : ∀ j x, l[j]? = some x → w.cell? ⟨g, j, none⟩ = some (.int .u8 x.toNat)) :
    Calls P (ρ.f 169) #[.pointer (some ⟨b, 0, none⟩)] w fun e w' => e = .returned (.string ⟨l.toArray⟩) ∧ w' = w.drew.freeze ⟨g, 0, none⟩ l.length := by
  have c1 : w.drew.cell? ⟨b, 1, none⟩ = some (.slice (some ⟨g, 0, none⟩) l.length cap) := hc1
  have hSD : (Builtin.unsafeSliceData_ #[(ρ.t 37)] (ρ.t 127) #[.slice (some ⟨g, 0, none⟩) l.length cap]).run P w.drew = .ok (.pointer (some ⟨g, 0, none⟩)) w.drew :=
    Lib.run_unsafeSliceData_row _ _ _ _ _ _ hcap
  have hUS : (Builtin.unsafeString_ #[(ρ.t 127), (ρ.t 3)] (ρ.t 9) #[.pointer (some ⟨g, 0, none⟩), .int .i64 l.length]).run P w.drew = .ok (.string ⟨l.toArray⟩) (w.drew.freeze ⟨g, 0, none⟩ l.length) := by
    refine Lib.run_unsafeString_row w.drew (ρ.t 127) (ρ.t 3) (ρ.t 9) (ρ.t 5) L.t127 X.cellsByte g size hsh l h0 hle h63 ?_
    intro j x hx
    rw [addr_add', Nat.zero_add]
    exact hcell j x hx
  have mixed := L.mixed
  have t72 := L.t72; have a72 := L.a72; have z72 := L.z72; have v72 := L.v72; have u72 := run_underlying L.t72
  have t70 := L.t70; have a70 := L.a70; have z70 := L.z70; have v70 := L.v70; have u70 := run_underlying L.t70
  have t37 := L.t37; have a37 := L.a37; have z37 := L.z37; have v37 := L.v37; have u37 := run_underlying L.t37
  have t127 := L.t127; have a127 := L.a127; have z127 := L.z127; have v127 := L.v127; have u127 := run_underlying L.t127
  have t3 := L.t3; have a3 := L.a3; have z3 := L.z3; have v3 := L.v3; have u3 := run_underlying L.t3
  have t9 := L.t9; have a9 := L.a9; have z9 := L.z9; have v9 := L.v9; have u9 := run_underlying L.t9
  have t5 := X.t5; have a5 := X.a5; have z5 := X.z5; have v5 := X.v5; have u5 := run_underlying X.t5
  go_enter L.f169, Body.n169_ntmps ρ
  go_wp2
  go_region_o
  all_goals (go_wp2; go_ret; exact ⟨rfl, rfl⟩)
set_option maxHeartbeats 2000000 in
set_option maxRecDepth 100000 in
theorem bstr_nil (L : Lays.n169 P ρ) (X : Builder.Extra P ρ) (b : Nat) (w : World) (hc1 : w.cell? ⟨b, 1, none⟩ = some (.slice none 0 0)) :
    Calls P (ρ.f 169) #[.pointer (some ⟨b, 0, none⟩)] w fun e w' => e = .returned (.string ⟨#[]⟩) ∧ w' = w.drew := by
  have hUS := Any.unsafeString_none L X
  have c1 : w.drew.cell? ⟨b, 1, none⟩ = some (.slice none 0 0) := hc1
  have hSD : (Builtin.unsafeSliceData_ #[(ρ.t 37)] (ρ.t 127) #[.slice none 0 0]).run P w.drew = .ok (.pointer none) w.drew := rfl
  have mixed := L.mixed
  have t72 := L.t72; have a72 := L.a72; have z72 := L.z72; have v72 := L.v72; have u72 := run_underlying L.t72
  have t70 := L.t70; have a70 := L.a70; have z70 := L.z70; have v70 := L.v70; have u70 := run_underlying L.t70
  have t37 := L.t37; have a37 := L.a37; have z37 := L.z37; have v37 := L.v37; have u37 := run_underlying L.t37
  have t127 := L.t127; have a127 := L.a127; have z127 := L.z127; have v127 := L.v127; have u127 := run_underlying L.t127
  have t3 := L.t3; have a3 := L.a3; have z3 := L.z3; have v3 := L.v3; have u3 := run_underlying L.t3
  have t9 := L.t9; have a9 := L.a9; have z9 := L.z9; have v9 := L.v9; have u9 := run_underlying L.t9
  have t5 := X.t5; have a5 := X.a5; have z5 := X.z5; have v5 := X.v5; have u5 := run_underlying X.t5
  go_enter L.f169, Body.n169_ntmps ρ
  go_wp2
  go_region_o
  all_goals (go_wp2; go_ret; exact ⟨rfl, rfl⟩)
end
theorem size_bld : (Tryz.prog.info? 72).map (·.size) = some 2 := by kernel_rfl
theorem lies_bld : liesAt Tryz.prog Tryz.prog.depth 72 (2 / Tryz.prog.cellsOf 72) 0 72 1 = true := by kernel_rfl
set_option maxHeartbeats 1000000 in
set_option maxRecDepth 1000000 in
theorem cc_used (b : Nat) (w : World) (h0 : w.cell? ⟨b, 0, none⟩ = some (.pointer (some ⟨b, 0, none⟩))) :
    Calls Tryz.prog 81 #[.pointer (some ⟨b, 0, none⟩)] w fun e w' => e = .returned (.tuple #[]) ∧ w' = w := by
  obtain ⟨j, hj, _⟩ := Option.map_eq_some_iff.1 size_bld
  go_enter Tryz.func81, Tryz.ntmps81
  go_wp2
  rw [Lib.run_neq_ptr_same w _ Tryz.underlying70 hj]
  go_wp2
  go_end0
  exact ⟨rfl, rfl⟩
set_option maxHeartbeats 1000000 in
set_option maxRecDepth 1000000 in
theorem cc_fresh (b : Nat) (w : World) (h0 : w.cell? ⟨b, 0, none⟩ = some (.pointer none)) (hsh : w.shape? b = some (72, 2)) (hfz : w.frozen? ⟨b, 0, none⟩ = false) :
    Calls Tryz.prog 81 #[.pointer (some ⟨b, 0, none⟩)] w fun e w' => e = .returned (.tuple #[]) ∧ w' = w.setCell ⟨b, 0, none⟩ (.pointer (some ⟨b, 0, none⟩)) := by
  obtain ⟨j, hj, hjs⟩ := Option.map_eq_some_iff.1 size_bld
  go_enter Tryz.func81, Tryz.ntmps81
  go_wp2
  rw [Lib.run_to_unsafe w ⟨b, 0, none⟩ Tryz.underlying70 Tryz.underlying135 hj (by rw [hjs]; decide) hsh (Nat.zero_lt_succ 1)]
  simp only [Result.andThen]
  rw [Oper.upon_value]
  go_wp2
  rw [run_callFunc_extern Tryz.func97 (by kernel_rfl) (by kernel_rfl) (by kernel_rfl) (e := Extern.AbiNoEscape.same) (by kernel_rfl)]
  rw [Lib.run_noEscape]
  simp only [Result.andThen]
  rw [Oper.upon_value]
  go_wp2
  rw [Lib.run_from_unsafe w ⟨b, 0, none⟩ Tryz.underlying135 Tryz.underlying70 hj hsh lies_bld]
  simp only [Result.andThen]
  rw [Oper.upon_value]
  go_wp2
  go_end0
  exact ⟨rfl, rfl⟩
end Go.A
namespace Go.A
open Go.Proofs
set_option maxRecDepth 100000
set_option linter.unusedSimpArgs false
set_option linter.unusedVariables false
theorem copyCheck_typ {σ : ASt} {b : Nat} (h : σ b = some (.typ 72 [.pointer none, .slice none 0 0])) :
    ACalls Tryz.prog 81 [.ptr b 0] σ fun v σ' => v = .tuple [] ∧ σ' = σ.set b (some (.obj [.ptr b 0, .sl .full []])) := by
  intro w vs hs ha
  cases ha with
  | cons h1 h2 =>
  cases h1; cases h2
  have hb : w.heap[b]? = some (.cells ⟨[.pointer none, .slice none 0 0]⟩ 72 (0, 0)) := hs b _ h
  refine (cc_fresh b w (by simp [World.cell?, hb]) (by simp [World.shape?, hb]) (by simp [World.frozen?, hb])).mono ?_
  rintro e w' ⟨rfl, rfl⟩
  have hw := Wrote.setCell (o := 0) hb (.pointer (some ⟨b, 0, none⟩))
  have hle : Le σ w (σ.set b (some (.obj [.ptr b 0, .sl .full []]))) (w.setCell ⟨b, 0, none⟩ (.pointer (some ⟨b, 0, none⟩))) := by
    refine ⟨hw.os, hw.tape, hw.output, by rw [hw.size]; exact Nat.le_refl _, fun x hx hn => ?_, fun x cs hx hn => ?_, fun x f hx hn => ?_⟩
    all_goals have hne : x ≠ b := by rintro rfl; rw [h] at hn; cases hn
    · rw [ASt.set_ne hne]; exact ⟨hn, hw.other x hne⟩
    · rw [ASt.set_ne hne]; exact ⟨.inr hn, hw.other x hne⟩
    · rw [ASt.set_ne hne]; exact ⟨.inr ⟨f, Nat.le_refl _, hn⟩, shape_of_heap_eq (hw.other x hne), fun o _ => cell_of_heap_eq (hw.other x hne) o⟩
  have hro : RoleOk (σ.set b (some (.obj [.ptr b 0, .sl .full []]))) (w.setCell ⟨b, 0, none⟩ (.pointer (some ⟨b, 0, none⟩))) b (.obj [.ptr b 0, .sl .full []]) := by
    refine ⟨_, _, _, hw.new, ?_, fun o ho => ?_⟩
    · exact .cons (.ptr _ _) (.cons .slN .nil)
    · rw [hw.frozen]
      simp only [World.frozen?, hb]
      simp
  exact ⟨_, _, _, rfl, ⟨rfl, rfl⟩, hle, hw.sim hs hle hro, .tuple .nil⟩
theorem copyCheck_used {σ : ASt} {b : Nat} {x : AV} (h : σ b = some (.obj [.ptr b 0, x])) : ACalls Tryz.prog 81 [.ptr b 0] σ fun v σ' => v = .tuple [] ∧ σ' = σ := by
  intro w vs hs ha
  cases ha with
  | cons h1 h2 =>
  cases h1; cases h2
  obtain ⟨us, h3, h4, _⟩ := hs.objCell h
  cases h3 with
  | cons h5 h6 =>
  cases h5
  refine (cc_used b w (h4 0 _ rfl)).mono ?_
  rintro e w' ⟨rfl, rfl⟩
  exact ⟨_, _, _, rfl, ⟨rfl, rfl⟩, Le.refl _ _, hs, .tuple .nil⟩
theorem bstring_typ {σ : ASt} {b : Nat} (h : σ b = some (.typ 72 [.pointer none, .slice none 0 0])) : ACalls Tryz.prog 33 [.ptr b 0] σ fun v σ' => v = .str [] ∧ σ' = σ := by
  intro w vs hs ha
  cases ha with
  | cons h1 h2 =>
  cases h1; cases h2
  have hb : w.heap[b]? = some (.cells ⟨[.pointer none, .slice none 0 0]⟩ 72 (0, 0)) := hs b _ h
  refine (bstr_nil Tryz.lays169 Tryz.Builder_Extra_169 b w (by simp [World.cell?, hb])).mono ?_
  rintro e w' ⟨rfl, rfl⟩
  have hx : Ext w w.drew := Ext.drew (Ext.refl w)
  exact ⟨_, _, _, rfl, ⟨rfl, rfl⟩, ext_le hx, hs.ext hx, .str []⟩
theorem row_bytes {σ : ASt} {w : World} {b : Nat} : ∀ {l : List UInt8} {o : Nat}, Row σ w b o 1 (bytesAV l) → ∀ j x, l[j]? = some x → w.cell? ⟨b, o + j, none⟩ = some (.int .u8 x.toNat)
  | [], o, h, j, x, hj => by simp at hj
  | c :: l, o, h, j, x, hj => by
    cases h with
    | cons h1 h2 h3 =>
    cases j with
    | zero =>
      simp only [List.getElem?_cons_zero, Option.some.injEq] at hj
      subst hj
      cases h2 with
      | cons g1 g2 g3 g4 =>
      cases g3
      exact g2
    | succ j =>
      have := row_bytes (l := l) h3 j x (by simpa using hj)
      rw [show o + (j + 1) = o + 1 + j by omega]
      exact this
theorem bstring_used {σ : ASt} {b g : Nat} {p : AV} {l : List UInt8} (h0 : l ≠ []) (hl : l.length ≤ 9223372036854775807) (h : σ b = some (.obj [p, .sl (.tok g 1 5) (bytesAV l)])) (hg : σ g = some (.tok l.length)) :
    ACalls Tryz.prog 33 [.ptr b 0] σ fun v σ' => v = .str l ∧ σ' = σ := by
  intro w vs hs ha
  cases ha with
  | cons h1 h2 =>
  cases h1; cases h2
  obtain ⟨us, h3, h4, h9⟩ := hs.objCell h
  cases h3 with
  | cons h5 h6 =>
  cases h6 with
  | cons h7 h8 =>
  cases h8
  obtain ⟨c, T, fr, k1, k2, k3⟩ := hs g _ hg
  have hlen : (bytesAV l).length = l.length := by simp [bytesAV]
  generalize hbl : bytesAV l = bl at h7
  cases h7 with
  | sl r1 r2 r3 r4 r5 =>
  subst hbl
  obtain ⟨rfl, rfl, rfl, r6, r7⟩ := r4
  have hpos : 0 < l.length := List.length_pos_iff.2 h0
  subst r2
  rw [hlen] at r3
  have hc1 := h4 1 _ rfl
  rw [hlen] at hc1
  refine (bstr_used Tryz.lays169 Tryz.Builder_Extra_169 b g _ _ l w h0 hc1 (by omega) r6 (by omega) hl ?_).mono ?_
  · intro j x hj
    have := row_bytes r1 j x hj
    simpa using this
  rintro e w' ⟨rfl, rfl⟩
  have hother : ∀ x, x ≠ g → (w.drew.freeze ⟨g, 0, none⟩ l.length).heap[x]? = w.heap[x]? := by
    intro x hx
    simp only [World.freeze]
    rw [if_neg (by omega)]
    simp only [Array.getElem?_modify]
    rw [if_neg (Ne.symm hx)]
    rfl
  obtain ⟨lo, hi⟩ := fr
  have hk1 : w.drew.heap[g]? = some (.cells c T (lo, hi)) := k1
  obtain ⟨fr', hfr, hnew⟩ : ∃ fr' : Nat × Nat, fr'.2 ≤ l.length ∧ (w.drew.freeze ⟨g, 0, none⟩ l.length).heap[g]? = some (.cells c T fr') := by
    refine ⟨if lo == hi then (0, 0 + l.length) else (min lo 0, max hi (0 + l.length)), ?_, ?_⟩
    · dsimp only at k3
      split <;> dsimp only <;> omega
    · simp only [World.freeze]
      rw [if_neg (by omega)]
      simp only [Array.getElem?_modify, if_true, hk1, Option.map_some]
  have hshape : (w.drew.freeze ⟨g, 0, none⟩ l.length).shape? g = w.shape? g := by simp only [World.shape?, hnew, k1]
  have hcells : ∀ o, (w.drew.freeze ⟨g, 0, none⟩ l.length).cell? ⟨g, o, none⟩ = w.cell? ⟨g, o, none⟩ := fun o => by simp only [World.cell?, hnew, k1]
  have hle : Le σ w σ (w.drew.freeze ⟨g, 0, none⟩ l.length) := by
    refine ⟨?_, ?_, ?_, ?_, fun x hx hn => ?_, fun x cs hx hn => ?_, fun x f hx hn => ?_⟩
    · simp only [World.freeze]; split <;> rfl
    · simp only [World.freeze]; split <;> rfl
    · simp only [World.freeze]; split <;> rfl
    · simp only [World.freeze]; split
      · exact Nat.le_refl _
      · rw [Array.size_modify]; exact Nat.le_refl _
    · have hne : x ≠ g := by rintro rfl; rw [hg] at hn; cases hn
      exact ⟨hn, hother x hne⟩
    · have hne : x ≠ g := by rintro rfl; rw [hg] at hn; cases hn
      exact ⟨.inr hn, hother x hne⟩
    · by_cases hne : x = g
      · subst hne
        exact ⟨.inr ⟨f, Nat.le_refl _, hn⟩, hshape, fun o _ => hcells o⟩
      · exact ⟨.inr ⟨f, Nat.le_refl _, hn⟩, shape_of_heap_eq (hother x hne), fun o _ => cell_of_heap_eq (hother x hne) o⟩
  have hsim : Sim σ (w.drew.freeze ⟨g, 0, none⟩ l.length) := by
    intro x q hx
    by_cases hne : x = g
    · subst hne
      rw [hg] at hx
      injection hx with hx
      subst hx
      exact ⟨c, T, fr', hnew, k2, hfr⟩
    · exact (hs x q hx).keep hle (hother x hne)
  exact ⟨_, _, _, rfl, ⟨rfl, rfl⟩, hle, hsim, .str l⟩
end Go.A
namespace Go.A
open Go.Proofs
/-! 58: tabular/token.Quote -/
def c58_0 : ACode := .ops [
    ⟨(some 2), none, .q (.mv (.v (.str []))), []⟩]
def c58_1 : ACode := .ops [
    ⟨(some 3), none, .q (.mv (.t 0)), []⟩,
    ⟨(some 4), none, .e (.call 85 [(.t 3), (.v (.str [34])), (.v (.str [34, 34]))]), []⟩,
    ⟨(some 5), none, .q (.bin .add (.v (.str [34])) (.t 4)), []⟩,
    ⟨(some 6), none, .q (.bin .add (.t 5) (.v (.str [34]))), []⟩,
    ⟨(some 2), none, .q (.mv (.t 6)), []⟩]
def c58_2 : ACode := .seq c58_1 .ret
def c58_3 : ACode := .seq c58_0 c58_2
@[go_sem] theorem c58_0_wp : type_of% (wp_of c58_0.eq_1) := wp_of c58_0.eq_1
@[go_sem] theorem c58_1_wp : type_of% (wp_of c58_1.eq_1) := wp_of c58_1.eq_1
@[go_sem] theorem c58_2_wp : type_of% (wp_of c58_2.eq_1) := wp_of c58_2.eq_1
@[go_sem] theorem c58_3_wp : type_of% (wp_of c58_3.eq_1) := wp_of c58_3.eq_1
def c58 : AFn := ⟨7, [.t 2], c58_3⟩
set_option maxRecDepth 100000 in
theorem c58_ok : compF Tryz.prog Tryz.f58 = some c58 := by kernel_rfl
theorem a58 {args : List AV} {σ : ASt} {R : AV → ASt → Prop} (hl : args.length ≤ 7) (h : c58_3.wp Tryz.prog (RetQ [.t 2] R) (init args) σ) : ACalls Tryz.prog 58 args σ R := acalls_of Tryz.func58 c58_ok hl h
end Go.A
namespace Go.A
open Go.Proofs Go.Lib
set_option maxRecDepth 100000
set_option linter.unusedSimpArgs false
set_option linter.unusedVariables false
def dbl (s : List UInt8) : List UInt8 := s.flatMap fun c => if c = 34 then [34, 34] else [c]
theorem dbl_q (s : List UInt8) : dbl (34 :: s) = 34 :: 34 :: dbl s := by simp [dbl]
theorem dbl_o {c : UInt8} (h : c ≠ 34) (s : List UInt8) : dbl (c :: s) = c :: dbl s := by simp [dbl, h]
theorem rep_ne {c : UInt8} (hc : c ≠ 34) (new : List UInt8) : ∀ (k : Nat) (s : List UInt8), replaceK [34] new k (c :: s) = c :: replaceK [34] new k s
  | 0, s => rfl
  | k + 1, s => by
    have hp : ([34] : List UInt8).isPrefixOf (c :: s) = false := by
      simp [List.isPrefixOf]
      exact fun h => hc h.symm
    have hi : index (c :: s) [34] = if index s [34] == -1 then -1 else index s [34] + 1 := by
      rw [index, hp]
      simp
    unfold replaceK
    rw [hi]
    have hge := index_ge s [34]
    by_cases h : index s [34] = -1
    · have hb : (index s [34] == -1) = true := by rw [h]; rfl
      rw [if_pos hb, if_pos (by rfl), if_pos hb]
    · have hb : ¬ (index s [34] == -1) = true := by rw [beq_iff_eq]; exact h
      rw [if_neg hb, if_neg (by rw [beq_iff_eq]; omega), if_neg hb]
      have e : (index s [34] + 1).toNat = (index s [34]).toNat + 1 := by omega
      rw [e, List.take_succ_cons]
      simp only [List.length_cons, List.length_nil, List.cons_append]
      rw [show (index s [34]).toNat + 1 + (0 + 1) = ((index s [34]).toNat + (0 + 1)) + 1 by omega, List.drop_succ_cons]
theorem rep_eq (new : List UInt8) (k : Nat) (s : List UInt8) : replaceK [34] new (k + 1) (34 :: s) = new ++ replaceK [34] new k s := by
  have hi : index (34 :: s) [34] = 0 := by
    rw [index]
    simp [List.isPrefixOf]
  rw [replaceK, hi]
  simp
theorem rep_dbl : ∀ s : List UInt8, replaceK [34] [34, 34] (s.count 34) s = dbl s
  | [] => rfl
  | c :: s => by
    by_cases hc : c = 34
    · subst hc
      rw [List.count_cons_self, rep_eq, rep_dbl s, dbl_q]
      rfl
    · rw [List.count_cons_of_ne (by simpa using hc), rep_ne hc, rep_dbl s, dbl_o hc]
theorem replace_dbl (s : List UInt8) : replaceAll s [34] [34, 34] = dbl s := by
  unfold replaceAll replace replaceNum
  rw [if_neg (by decide), if_pos (.inl (by omega)), count_one, rep_dbl]
theorem dbl_len (s : List UInt8) : (dbl s).length ≤ 2 * s.length := by
  induction s with
  | nil => simp [dbl]
  | cons c s ih =>
    by_cases hc : c = 34
    · subst hc; rw [dbl_q]; simp; omega
    · rw [dbl_o hc]; simp; omega
def MaxL (σ : ASt) : Prop := ∃ m : Int, σ 3 = some (.fix ([m].map (AV.int .i64)))
theorem replace_ok {σ : ASt} (hM : MaxL σ) (s : List UInt8) (hs : s.length ≤ 100000) : ACalls Tryz.prog 85 [.str s, .str [34], .str [34, 34]] σ fun v σ' => v = .str (dbl s) ∧ σ' = σ := by
  obtain ⟨m, hm⟩ := hM
  refine ACalls.of_below (u := .string ⟨⟨dbl s⟩⟩) (fun w vs hsim ha => ?_) fun w => .str _
  cases ha with
  | cons h1 h2 =>
  cases h2 with
  | cons h2 h3 =>
  cases h3 with
  | cons h3 h4 =>
  cases h1; cases h2; cases h3; cases h4
  have hcell := fix_ints hsim hm 0 m rfl
  have e1 : (⟨⟨s⟩⟩ : ByteArray).size = s.length := rfl
  have e2 : (⟨⟨[34, 34]⟩⟩ : ByteArray).size = 2 := rfl
  have hcb : countB ⟨⟨s⟩⟩ ⟨⟨[34]⟩⟩ ≤ s.length := by
    show count s [34] ≤ s.length
    rw [count_one]
    exact List.count_le_length
  refine (Tryz.strings_ReplaceAll ⟨⟨s⟩⟩ ⟨⟨[34]⟩⟩ ⟨⟨[34, 34]⟩⟩ m w (by rw [e1]; omega) hcell (by decide) (by rw [e1, e2]; omega)).mono ?_
  rintro e w' ⟨rfl, hb⟩
  refine ⟨?_, hb⟩
  show _ = Ending.returned (.string ⟨⟨dbl s⟩⟩)
  rw [← replace_dbl]
theorem tquote_ok {σ : ASt} (hM : MaxL σ) (s : List UInt8) (hs : s.length ≤ 100000) : ACalls Tryz.prog 58 [.str s] σ fun v σ' => v = .str (34 :: dbl s ++ [34]) ∧ σ' = σ := by
  have hl := dbl_len s
  refine a58 (by simp) ?_
  simp (disch := first | assumption | omega | (simp only [List.length_append, List.length_cons, List.length_nil]; omega)) only [go_sem, reduceCtorEq, Nat.reduceEqDiff, Nat.reduceAdd, Nat.reduceSub, Nat.reduceMul, Nat.reduceLeDiff, Int.reduceLT, Int.reduceLE, Int.reduceEq, ↓reduceIte, Int.reduceNeg, Int.reduceAdd, Int.reduceSub, Int.reduceMul, true_imp_iff, forall_const, Nat.mul_one, Int.reduceToNat, Nat.reducePow, Int.reducePow, Bool.true_and, Bool.false_and, Bool.and_false]
  refine (replace_ok hM s hs).mono ?_
  rintro v σ' ⟨rfl, rfl⟩
  have e1 : binS .add [34] (dbl s) = some (.str (34 :: dbl s)) := binS_add (by simp; omega)
  have e2 : binS .add (34 :: dbl s) [34] = some (.str (34 :: dbl s ++ [34])) := binS_add (by simp; omega)
  simp (disch := first | assumption | omega | (simp only [List.length_append, List.length_cons, List.length_nil]; omega)) only [go_sem, reduceCtorEq, Nat.reduceEqDiff, Nat.reduceAdd, Nat.reduceSub, Nat.reduceMul, Nat.reduceLeDiff, Int.reduceLT, Int.reduceLE, Int.reduceEq, ↓reduceIte, Int.reduceNeg, Int.reduceAdd, Int.reduceSub, Int.reduceMul, true_imp_iff, forall_const, Nat.mul_one, Int.reduceToNat, Nat.reducePow, Int.reducePow, Bool.true_and, Bool.false_and, Bool.and_false, e1, e2]
  exact retC_by (Drop.refl _) (.refl _) ⟨rfl, rfl⟩
end Go.A
namespace Go.A
open Go.Proofs
/-! 60: (tabular/addr.Ref).Text -/
def c60_0 : ACode := .ops [
    ⟨(some 1), none, .e (.box (.t 0)), []⟩,
    ⟨(some 2), none, .q (.mv (.v (.str []))), []⟩]
def c60_1 : ACode := .ops [
    ⟨(some 3), none, .q (.fa 3 (.t 1)), []⟩,
    ⟨(some 4), none, .q (.ld none (.t 3)), []⟩,
    ⟨(some 6), none, .q (.fa 1 (.t 1)), []⟩,
    ⟨(some 7), none, .q (.ld none (.t 6)), []⟩,
    ⟨(some 10), none, .q (.fa 2 (.t 1)), []⟩,
    ⟨(some 11), none, .q (.ld none (.t 10)), []⟩,
    ⟨(some 14), none, .q (.fa 0 (.t 1)), []⟩,
    ⟨(some 15), none, .q (.ld none (.t 14)), []⟩,
    ⟨(some 16), none, .q (.bin .add (.t 15) (.v (.int .i64 1))), []⟩,
    ⟨(some 5), none, .e (.call 86 [(.t 4)]), [⟨none, .ld none (.t 6), 7⟩, ⟨none, .ld none (.t 10), 11⟩, ⟨none, .ld none (.t 14), 15⟩]⟩,
    ⟨(some 8), none, .e (.call 87 [(.t 7)]), [⟨none, .ld none (.t 10), 11⟩, ⟨none, .ld none (.t 14), 15⟩]⟩,
    ⟨(some 9), none, .q (.bin .add (.t 5) (.t 8)), []⟩,
    ⟨(some 12), none, .e (.call 86 [(.t 11)]), [⟨none, .ld none (.t 14), 15⟩]⟩,
    ⟨(some 13), none, .q (.bin .add (.t 9) (.t 12)), []⟩,
    ⟨(some 17), none, .e (.call 88 [(.t 16)]), []⟩,
    ⟨(some 18), none, .q (.bin .add (.t 13) (.t 17)), []⟩,
    ⟨(some 2), none, .q (.mv (.t 18)), []⟩]
def c60_2 : ACode := .seq c60_1 .ret
def c60_3 : ACode := .seq c60_0 c60_2
@[go_sem] theorem c60_0_wp : type_of% (wp_of c60_0.eq_1) := wp_of c60_0.eq_1
@[go_sem] theorem c60_1_wp : type_of% (wp_of c60_1.eq_1) := wp_of c60_1.eq_1
@[go_sem] theorem c60_2_wp : type_of% (wp_of c60_2.eq_1) := wp_of c60_2.eq_1
@[go_sem] theorem c60_3_wp : type_of% (wp_of c60_3.eq_1) := wp_of c60_3.eq_1
def c60 : AFn := ⟨19, [.t 2], c60_3⟩
set_option maxRecDepth 100000 in
theorem c60_ok : compF Tryz.prog Tryz.f60 = some c60 := by kernel_rfl
theorem a60 {args : List AV} {σ : ASt} {R : AV → ASt → Prop} (hl : args.length ≤ 19) (h : c60_3.wp Tryz.prog (RetQ [.t 2] R) (init args) σ) : ACalls Tryz.prog 60 args σ R := acalls_of Tryz.func60 c60_ok hl h
/-! 61: (tabular/addr.Area).Text -/
def c61_0 : ACode := .ops [
    ⟨(some 1), none, .e (.box (.t 0)), []⟩,
    ⟨(some 2), none, .q (.mv (.v (.str []))), []⟩]
def c61_1 : ACode := .ops [
    ⟨(some 3), none, .q (.fa 0 (.t 1)), []⟩,
    ⟨(some 4), none, .q (.ld (some 4) (.t 3)), []⟩,
    ⟨(some 7), none, .q (.fa 4 (.t 1)), []⟩,
    ⟨(some 8), none, .q (.ld (some 4) (.t 7)), []⟩,
    ⟨(some 5), none, .e (.call 60 [(.t 4)]), [⟨none, .ld (some 4) (.t 7), 8⟩]⟩,
    ⟨(some 6), none, .q (.bin .add (.t 5) (.v (.str [58]))), []⟩,
    ⟨(some 9), none, .e (.call 60 [(.t 8)]), []⟩,
    ⟨(some 10), none, .q (.bin .add (.t 6) (.t 9)), []⟩,
    ⟨(some 2), none, .q (.mv (.t 10)), []⟩]
def c61_2 : ACode := .seq c61_1 .ret
def c61_3 : ACode := .seq c61_0 c61_2
@[go_sem] theorem c61_0_wp : type_of% (wp_of c61_0.eq_1) := wp_of c61_0.eq_1
@[go_sem] theorem c61_1_wp : type_of% (wp_of c61_1.eq_1) := wp_of c61_1.eq_1
@[go_sem] theorem c61_2_wp : type_of% (wp_of c61_2.eq_1) := wp_of c61_2.eq_1
@[go_sem] theorem c61_3_wp : type_of% (wp_of c61_3.eq_1) := wp_of c61_3.eq_1
def c61 : AFn := ⟨11, [.t 2], c61_3⟩
set_option maxRecDepth 100000 in
theorem c61_ok : compF Tryz.prog Tryz.f61 = some c61 := by kernel_rfl
theorem a61 {args : List AV} {σ : ASt} {R : AV → ASt → Prop} (hl : args.length ≤ 11) (h : c61_3.wp Tryz.prog (RetQ [.t 2] R) (init args) σ) : ACalls Tryz.prog 61 args σ R := acalls_of Tryz.func61 c61_ok hl h
/-! 86: tabular/addr.dollar -/
def c86_0 : ACode := .ops [
    ⟨(some 2), none, .q (.mv (.v (.str []))), []⟩]
def c86_1 : ACode := .ops [
    ⟨(some 3), none, .q (.mv (.t 0)), []⟩]
def c86_2 : ACode := .ops [
    ⟨(some 2), none, .q (.mv (.v (.str [36]))), []⟩]
def c86_3 : ACode := .seq c86_2 .ret
def c86_4 : ACode := .cond (.t 3) c86_3 .skip
def c86_5 : ACode := .seq c86_1 c86_4
def c86_6 : ACode := .ops [
    ⟨(some 2), none, .q (.mv (.v (.str []))), []⟩]
def c86_7 : ACode := .seq c86_6 .ret
def c86_8 : ACode := .seq c86_5 c86_7
def c86_9 : ACode := .seq c86_0 c86_8
@[go_sem] theorem c86_0_wp : type_of% (wp_of c86_0.eq_1) := wp_of c86_0.eq_1
@[go_sem] theorem c86_1_wp : type_of% (wp_of c86_1.eq_1) := wp_of c86_1.eq_1
@[go_sem] theorem c86_2_wp : type_of% (wp_of c86_2.eq_1) := wp_of c86_2.eq_1
@[go_sem] theorem c86_3_wp : type_of% (wp_of c86_3.eq_1) := wp_of c86_3.eq_1
@[go_sem] theorem c86_4_wp : type_of% (wp_of c86_4.eq_1) := wp_of c86_4.eq_1
@[go_sem] theorem c86_5_wp : type_of% (wp_of c86_5.eq_1) := wp_of c86_5.eq_1
@[go_sem] theorem c86_6_wp : type_of% (wp_of c86_6.eq_1) := wp_of c86_6.eq_1
@[go_sem] theorem c86_7_wp : type_of% (wp_of c86_7.eq_1) := wp_of c86_7.eq_1
@[go_sem] theorem c86_8_wp : type_of% (wp_of c86_8.eq_1) := wp_of c86_8.eq_1
@[go_sem] theorem c86_9_wp : type_of% (wp_of c86_9.eq_1) := wp_of c86_9.eq_1
def c86 : AFn := ⟨4, [.t 2], c86_9⟩
set_option maxRecDepth 100000 in
theorem c86_ok : compF Tryz.prog Tryz.f86 = some c86 := by kernel_rfl
theorem a86 {args : List AV} {σ : ASt} {R : AV → ASt → Prop} (hl : args.length ≤ 4) (h : c86_9.wp Tryz.prog (RetQ [.t 2] R) (init args) σ) : ACalls Tryz.prog 86 args σ R := acalls_of Tryz.func86 c86_ok hl h
end Go.A
namespace Go.A
open Go.Proofs
set_option maxRecDepth 100000
set_option linter.unusedSimpArgs false
set_option linter.unusedVariables false
theorem dollar_ok (b : Bool) : Pure Tryz.prog 86 [.bool b] (.str (dolP b)) := by
  intro σ
  refine a86 (by simp) ?_
  cases b
  · simp (disch := first | assumption | omega | (simp only [List.length_append, List.length_cons, List.length_nil]; omega)) only [go_sem, reduceCtorEq, Nat.reduceEqDiff, Nat.reduceAdd, Nat.reduceSub, Nat.reduceMul, Nat.reduceLeDiff, Int.reduceLT, Int.reduceLE, Int.reduceEq, ↓reduceIte, Int.reduceNeg, Int.reduceAdd, Int.reduceSub, Int.reduceMul, true_imp_iff, forall_const, Nat.mul_one, Int.reduceToNat, Nat.reducePow, Int.reducePow, Bool.true_and, Bool.false_and, Bool.and_false]
    exact retC_by (Drop.refl _) (.refl _) ⟨rfl, rfl⟩
  · simp (disch := first | assumption | omega | (simp only [List.length_append, List.length_cons, List.length_nil]; omega)) only [go_sem, reduceCtorEq, Nat.reduceEqDiff, Nat.reduceAdd, Nat.reduceSub, Nat.reduceMul, Nat.reduceLeDiff, Int.reduceLT, Int.reduceLE, Int.reduceEq, ↓reduceIte, Int.reduceNeg, Int.reduceAdd, Int.reduceSub, Int.reduceMul, true_imp_iff, forall_const, Nat.mul_one, Int.reduceToNat, Nat.reducePow, Int.reducePow, Bool.true_and, Bool.false_and, Bool.and_false]
    exact retC_by (Drop.refl _) (.refl _) ⟨rfl, rfl⟩
theorem text_ok {σ : ASt} (ht : Tab σ) {r : Ref} (hg : r.good = true) : ACalls Tryz.prog 60 [refAV r] σ fun v σ' => v = .str (textP r) ∧ σ' = σ := by
  have hg' := hg
  simp only [Ref.good, decide_eq_true_eq] at hg'
  obtain ⟨g1, g2, g3, g4⟩ := hg'
  have hi := itoa_num g1 g2
  have hl := letters_len r.col
  have hn := (num_facts g1 g2).2.2.2.1
  have hd1 : (dolP r.absCol).length ≤ 1 := by unfold dolP; split <;> simp
  have hd2 : (dolP r.absRow).length ≤ 1 := by unfold dolP; split <;> simp
  obtain ⟨l, hlq⟩ : ∃ l, textP r = l := ⟨_, rfl⟩
  rw [hlq]
  unfold textP at hlq
  refine a60 (by simp) ?_
  simp (disch := first | assumption | omega | (simp only [List.length_append, List.length_cons, List.length_nil]; omega)) only [go_sem, reduceCtorEq, Nat.reduceEqDiff, Nat.reduceAdd, Nat.reduceSub, Nat.reduceMul, Nat.reduceLeDiff, Int.reduceLT, Int.reduceLE, Int.reduceEq, ↓reduceIte, Int.reduceNeg, Int.reduceAdd, Int.reduceSub, Int.reduceMul, true_imp_iff, forall_const, Nat.mul_one, Int.reduceToNat, Nat.reducePow, Int.reducePow, Bool.true_and, Bool.false_and, Bool.and_false, refAV]
  refine boxC_by rfl fun b hb => ?_
  simp (disch := first | assumption | omega | (simp only [List.length_append, List.length_cons, List.length_nil]; omega)) only [go_sem, reduceCtorEq, Nat.reduceEqDiff, Nat.reduceAdd, Nat.reduceSub, Nat.reduceMul, Nat.reduceLeDiff, Int.reduceLT, Int.reduceLE, Int.reduceEq, ↓reduceIte, Int.reduceNeg, Int.reduceAdd, Int.reduceSub, Int.reduceMul, true_imp_iff, forall_const, Nat.mul_one, Int.reduceToNat, Nat.reducePow, Int.reducePow, Bool.true_and, Bool.false_and, Bool.and_false]
  refine (dollar_ok _).use ?_
  simp (disch := first | assumption | omega | (simp only [List.length_append, List.length_cons, List.length_nil]; omega)) only [go_sem, reduceCtorEq, Nat.reduceEqDiff, Nat.reduceAdd, Nat.reduceSub, Nat.reduceMul, Nat.reduceLeDiff, Int.reduceLT, Int.reduceLE, Int.reduceEq, ↓reduceIte, Int.reduceNeg, Int.reduceAdd, Int.reduceSub, Int.reduceMul, true_imp_iff, forall_const, Nat.mul_one, Int.reduceToNat, Nat.reducePow, Int.reducePow, Bool.true_and, Bool.false_and, Bool.and_false]
  refine (letters_ok _).use ?_
  simp (disch := first | assumption | omega | (simp only [List.length_append, List.length_cons, List.length_nil]; omega)) only [go_sem, reduceCtorEq, Nat.reduceEqDiff, Nat.reduceAdd, Nat.reduceSub, Nat.reduceMul, Nat.reduceLeDiff, Int.reduceLT, Int.reduceLE, Int.reduceEq, ↓reduceIte, Int.reduceNeg, Int.reduceAdd, Int.reduceSub, Int.reduceMul, true_imp_iff, forall_const, Nat.mul_one, Int.reduceToNat, Nat.reducePow, Int.reducePow, Bool.true_and, Bool.false_and, Bool.and_false]
  refine (dollar_ok _).use ?_
  simp (disch := first | assumption | omega | (simp only [List.length_append, List.length_cons, List.length_nil]; omega)) only [go_sem, reduceCtorEq, Nat.reduceEqDiff, Nat.reduceAdd, Nat.reduceSub, Nat.reduceMul, Nat.reduceLeDiff, Int.reduceLT, Int.reduceLE, Int.reduceEq, ↓reduceIte, Int.reduceNeg, Int.reduceAdd, Int.reduceSub, Int.reduceMul, true_imp_iff, forall_const, Nat.mul_one, Int.reduceToNat, Nat.reducePow, Int.reducePow, Bool.true_and, Bool.false_and, Bool.and_false]
  refine (itoa_ok (ht.set hb) (by omega) (by omega)).mono ?_
  rintro v σ' ⟨rfl, rfl⟩
  rw [hi]
  simp (disch := first | assumption | omega | (simp only [List.length_append, List.length_cons, List.length_nil]; omega)) only [go_sem, reduceCtorEq, Nat.reduceEqDiff, Nat.reduceAdd, Nat.reduceSub, Nat.reduceMul, Nat.reduceLeDiff, Int.reduceLT, Int.reduceLE, Int.reduceEq, ↓reduceIte, Int.reduceNeg, Int.reduceAdd, Int.reduceSub, Int.reduceMul, true_imp_iff, forall_const, Nat.mul_one, Int.reduceToNat, Nat.reducePow, Int.reducePow, Bool.true_and, Bool.false_and, Bool.and_false, hlq]
  exact retC_by (by repeat' (first | exact Drop.refl _ | with_reducible refine Drop.off ?_ (by assumption))) (.refl _) ⟨rfl, rfl⟩
theorem atext_ok {σ : ASt} (ht : Tab σ) {a b : Ref} (ha : a.good = true) (hb : b.good = true) : ACalls Tryz.prog 61 [areaAV a b] σ fun v σ' => v = .str (textP a ++ [58] ++ textP b) ∧ σ' = σ := by
  have l1 := text_len ha
  have l2 := text_len hb
  refine a61 (by simp) ?_
  simp (disch := first | assumption | omega | (simp only [List.length_append, List.length_cons, List.length_nil]; omega)) only [go_sem, reduceCtorEq, Nat.reduceEqDiff, Nat.reduceAdd, Nat.reduceSub, Nat.reduceMul, Nat.reduceLeDiff, Int.reduceLT, Int.reduceLE, Int.reduceEq, ↓reduceIte, Int.reduceNeg, Int.reduceAdd, Int.reduceSub, Int.reduceMul, true_imp_iff, forall_const, Nat.mul_one, Int.reduceToNat, Nat.reducePow, Int.reducePow, Bool.true_and, Bool.false_and, Bool.and_false, areaAV]
  refine boxC_by rfl fun b0 hb0 => ?_
  simp (disch := first | assumption | omega | (simp only [List.length_append, List.length_cons, List.length_nil]; omega)) only [go_sem, reduceCtorEq, Nat.reduceEqDiff, Nat.reduceAdd, Nat.reduceSub, Nat.reduceMul, Nat.reduceLeDiff, Int.reduceLT, Int.reduceLE, Int.reduceEq, ↓reduceIte, Int.reduceNeg, Int.reduceAdd, Int.reduceSub, Int.reduceMul, true_imp_iff, forall_const, Nat.mul_one, Int.reduceToNat, Nat.reducePow, Int.reducePow, Bool.true_and, Bool.false_and, Bool.and_false]
  refine (text_ok (ht.set hb0) ha).mono ?_
  rintro v σ' ⟨rfl, rfl⟩
  have e1 : binS .add (textP a) [58] = some (.str (textP a ++ [58])) := binS_add (by simp only [List.length_cons, List.length_nil]; omega)
  have e2 : binS .add (textP a ++ [58]) (textP b) = some (.str (textP a ++ [58] ++ textP b)) := binS_add (by simp only [List.length_append, List.length_cons, List.length_nil]; omega)
  simp (disch := first | assumption | omega | (simp only [List.length_append, List.length_cons, List.length_nil]; omega)) only [go_sem, reduceCtorEq, Nat.reduceEqDiff, Nat.reduceAdd, Nat.reduceSub, Nat.reduceMul, Nat.reduceLeDiff, Int.reduceLT, Int.reduceLE, Int.reduceEq, ↓reduceIte, Int.reduceNeg, Int.reduceAdd, Int.reduceSub, Int.reduceMul, true_imp_iff, forall_const, Nat.mul_one, Int.reduceToNat, Nat.reducePow, Int.reducePow, Bool.true_and, Bool.false_and, Bool.and_false, e1]
  refine (text_ok (ht.set hb0) hb).mono ?_
  rintro v σ' ⟨rfl, rfl⟩
  simp (disch := first | assumption | omega | (simp only [List.length_append, List.length_cons, List.length_nil]; omega)) only [go_sem, reduceCtorEq, Nat.reduceEqDiff, Nat.reduceAdd, Nat.reduceSub, Nat.reduceMul, Nat.reduceLeDiff, Int.reduceLT, Int.reduceLE, Int.reduceEq, ↓reduceIte, Int.reduceNeg, Int.reduceAdd, Int.reduceSub, Int.reduceMul, true_imp_iff, forall_const, Nat.mul_one, Int.reduceToNat, Nat.reducePow, Int.reducePow, Bool.true_and, Bool.false_and, Bool.and_false, e2]
  exact retC_by (by repeat' (first | exact Drop.refl _ | with_reducible refine Drop.off ?_ (by assumption))) (.refl _) ⟨rfl, rfl⟩
end Go.A
namespace Go.A
open Go.Proofs Go.Shelf Go.RowKit Go.Sort
set_option linter.unusedSimpArgs false
set_option linter.unusedVariables false
set_option maxHeartbeats 4000000 in
set_option maxRecDepth 100000 in
theorem fmtU_small (u : Nat) (hu : u < 100) (w : World) : Calls Tryz.prog 98 #[.int .u64 u, .int .i64 10] w fun e w' => e = .returned (.string ⟨(Lib.decDigits u).toArray⟩) ∧ Ext w w' := by
  have iu : (u : Int) < 100 := by omega
  go_enter Tryz.func98, Tryz.ntmps98
  go_wp2_with (go_at_call 108; refine (Tryz.internal_strconv_small u hu _).mono ?_; rintro e w' ⟨rfl, rfl⟩)
  go_ret
  exact ⟨rfl, Ext.refl _⟩
set_option maxHeartbeats 12800000 in
set_option maxRecDepth 100000 in
theorem fmtU_big (u : Nat) (hu : 100 ≤ u) (hu64 : u < 18446744073709551616) (w : World) (htab : Lib.TabIs Tryz.prog w "internal/strconv.uint64pow10" .u64 Lib.pow10Tab) :
    Calls Tryz.prog 98 #[.int .u64 u, .int .i64 10] w fun e w' => e = .returned (.string ⟨(Lib.decDigits u).toArray⟩) ∧ Ext w w' := by
  have hu1 : 1 ≤ u := by omega
  have hnd20 : Lib.nDigits u ≤ 20 := by have := Lib.numDigits_eq u hu1 hu64; split at this <;> omega
  have hal : Tryz.prog.arrayLen 149 = 24 := by kernel_rfl
  have hsl : ∀ W, (Instr.sliceAt 149 (.pointer (some ⟨w.heap.size, 0, none⟩)) none (some (.int .i64 (Lib.nDigits u : Int))) none).run Tryz.prog W = .ok (.slice (some ⟨w.heap.size, 0, none⟩) (Lib.nDigits u) 24) W := fun W => by
    rw [run_sliceAt_array_h W 149 ⟨w.heap.size, 0, none⟩ (by kernel_rfl) .i64 (Lib.nDigits u : Int) (by omega) (by rw [hal]; omega)]
    rw [hal]
    rfl
  have hH0 := Lib.holds_zero0 w 149 (Lib.nDigits u) (by omega)
  have hfmt := Tryz.internal_strconv_formatBase10 w.heap.size 0 24 u (Array.replicate (Lib.nDigits u) 0) (w.alloc (.cells Lib.zeros24 149)) hH0 (by rw [Array.size_replicate]; exact Lib.lt_pow_nDigits u) hu64 (by rw [Array.size_replicate]; omega)
  rw [Array.size_replicate] at hfmt
  have HH0 := Lib.hid hH0
  have iu : (100 : Int) ≤ (u : Int) := by omega
  clear hH0 hal
  go_enter Tryz.func98, Tryz.ntmps98
  go_wp2_with (first
    | (go_at_call 109; refine (Tryz.internal_strconv_numDigits u hu1 hu64 _ (Lib.tabIs_alloc htab _)).mono ?_; rintro e w' ⟨rfl, rfl⟩))
  go_at_call 110
  refine hfmt.mono ?_
  rintro e w' ⟨rfl, k, v', dk, rfl, hF⟩
  have hcv : (convert 51 9 (.slice (some ⟨w.heap.size, 0, none⟩) (Lib.nDigits u) 24)).run Tryz.prog ((putRow (fun (b : UInt8) => Value.int .u8 (b.toNat : Int)) (w.alloc (.cells Lib.zeros24 149)) w.heap.size 0 dk).drewN k) = .ok (.string ⟨(Lib.decDigits u).toArray⟩) ((putRow (fun (b : UInt8) => Value.int .u8 (b.toNat : Int)) (w.alloc (.cells Lib.zeros24 149)) w.heap.size 0 dk).drewN k) := by
    have h := run_convert_bytes_back (P := Tryz.prog) ((putRow (fun (b : UInt8) => Value.int .u8 (b.toNat : Int)) (w.alloc (.cells Lib.zeros24 149)) w.heap.size 0 dk).drewN k) 51 9 5 ⟨w.heap.size, 0, none⟩ 24 (Lib.decDigits u) Tryz.underlying51 Tryz.underlying5 Tryz.underlying9 (fun j hj => by
      rw [Lib.row_is_numeral hF j hj, Lib.add_plain, World.cell?_drewN]
      exact cell?_putRow (fun (b : UInt8) => Value.int .u8 (b.toNat : Int)) _ w.heap.size 0 _ dk HH0.out (by rw [hF.size, Array.size_replicate]) j (by rw [hF.size]; rw [Lib.decDigits_length] at hj; exact hj))
    rw [Lib.decDigits_length] at h
    exact h
  go_wp2
  go_ret
  obtain ⟨os, eo⟩ := Lib.fin_at w (.cells Lib.zeros24 149) dk k 0
  refine ⟨rfl, ?_⟩
  rw [eo]
  exact ext_grow w k os
theorem ifmt_ok {σ : ASt} (h : Tab σ) {u : Nat} (hu : u < 18446744073709551616) : ACalls Tryz.prog 98 [.int .u64 u, .int .i64 10] σ fun v σ' => v = .str (Lib.decDigits u) ∧ σ' = σ := by
  refine ACalls.of_ext (u := .string ⟨(Lib.decDigits u).toArray⟩) (fun w vs hs ha => ?_) fun w => .str _
  cases ha with
  | cons h1 h2 =>
  cases h2 with
  | cons h2 h3 =>
  cases h1; cases h2; cases h3
  by_cases hs2 : u < 100
  · exact fmtU_small u hs2 w
  · exact fmtU_big u (by omega) hu w (tabIs_of hs (by kernel_rfl) h)
theorem fmt_ok {σ : ASt} (h : Tab σ) {u : Nat} (hu : u < 18446744073709551616) : ACalls Tryz.prog 83 [.int .u64 u, .int .i64 10] σ fun v σ' => v = .str (Lib.decDigits u) ∧ σ' = σ := by
  refine a83 (by simp) ?_
  simp (disch := first | assumption | omega | (simp only [List.length_append, List.length_cons, List.length_nil]; omega)) only [go_sem, reduceCtorEq, Nat.reduceEqDiff, Nat.reduceAdd, Nat.reduceSub, Nat.reduceMul, Nat.reduceLeDiff, Int.reduceLT, Int.reduceLE, Int.reduceEq, ↓reduceIte, Int.reduceNeg, Int.reduceAdd, Int.reduceSub, Int.reduceMul, true_imp_iff, forall_const, Nat.mul_one, Int.reduceToNat, Nat.reducePow, Int.reducePow, Bool.true_and, Bool.false_and, Bool.and_false]
  refine (ifmt_ok h hu).mono ?_
  rintro v σ' ⟨rfl, rfl⟩
  simp (disch := first | assumption | omega | (simp only [List.length_append, List.length_cons, List.length_nil]; omega)) only [go_sem, reduceCtorEq, Nat.reduceEqDiff, Nat.reduceAdd, Nat.reduceSub, Nat.reduceMul, Nat.reduceLeDiff, Int.reduceLT, Int.reduceLE, Int.reduceEq, ↓reduceIte, Int.reduceNeg, Int.reduceAdd, Int.reduceSub, Int.reduceMul, true_imp_iff, forall_const, Nat.mul_one, Int.reduceToNat, Nat.reducePow, Int.reducePow, Bool.true_and, Bool.false_and, Bool.and_false]
  exact retC_by (Drop.refl _) (.refl _) ⟨rfl, rfl⟩
theorem trimRight_ok (s : List UInt8) (c : UInt8) (hc : c.toNat < 128) (hsl : s.length ≤ 9223372036854775807) : Pure Tryz.prog 84 [.str s, .str [c]] (.str (Lib.trimRightB s c)) := by
  intro σ
  refine ACalls.of_ext (u := .string ⟨(Lib.trimRightB s c).toArray⟩) (fun w vs hs ha => ?_) fun w => .str _
  cases ha with
  | cons h1 h2 =>
  cases h2 with
  | cons h2 h3 =>
  cases h1; cases h2; cases h3
  exact (Tryz.strings_TrimRight_one ⟨⟨s⟩⟩ c hc w (by simpa [ByteArray.size] using hsl)).mono fun e w' ⟨he, hw⟩ => ⟨he, Ext.of_eq hw⟩
end Go.A
namespace Go.A
open Go.Proofs
set_option maxRecDepth 100000
set_option linter.unusedSimpArgs false
set_option linter.unusedVariables false
theorem size_ok (a : Int) (h0 : -9223372036854775808 ≤ a) (h1 : a ≤ 9223372036854775807) : Pure Tryz.prog 82 [.int .i64 a] (.int .u64 (a.natAbs : Nat)) := by
  intro σ
  refine a82 (by simp) ?_
  by_cases h : a < 0
  · have e : IntKind.u64.wrap (IntKind.i64.wrap (0 - a)) = ((a.natAbs : Nat) : Int) := by rw [IntKind.wrap_u64, IntKind.wrap_i64]; omega
    simp (disch := first | assumption | omega | (simp only [List.length_append, List.length_cons, List.length_nil]; omega)) only [go_sem, reduceCtorEq, Nat.reduceEqDiff, Nat.reduceAdd, Nat.reduceSub, Nat.reduceMul, Nat.reduceLeDiff, Int.reduceLT, Int.reduceLE, Int.reduceEq, ↓reduceIte, Int.reduceNeg, Int.reduceAdd, Int.reduceSub, Int.reduceMul, true_imp_iff, forall_const, Nat.mul_one, Int.reduceToNat, Nat.reducePow, Int.reducePow, Bool.true_and, Bool.false_and, Bool.and_false, h, e]
    exact retC_by (by repeat' (first | exact Drop.refl _ | with_reducible refine Drop.off ?_ (by assumption))) (.refl _) ⟨rfl, rfl⟩
  · have e : IntKind.u64.wrap a = ((a.natAbs : Nat) : Int) := by rw [IntKind.wrap_u64]; omega
    simp (disch := first | assumption | omega | (simp only [List.length_append, List.length_cons, List.length_nil]; omega)) only [go_sem, reduceCtorEq, Nat.reduceEqDiff, Nat.reduceAdd, Nat.reduceSub, Nat.reduceMul, Nat.reduceLeDiff, Int.reduceLT, Int.reduceLE, Int.reduceEq, ↓reduceIte, Int.reduceNeg, Int.reduceAdd, Int.reduceSub, Int.reduceMul, true_imp_iff, forall_const, Nat.mul_one, Int.reduceToNat, Nat.reducePow, Int.reducePow, Bool.true_and, Bool.false_and, Bool.and_false, h, e]
    exact retC_by (by repeat' (first | exact Drop.refl _ | with_reducible refine Drop.off ?_ (by assumption))) (.refl _) ⟨rfl, rfl⟩
theorem dgood_ok (a : Int) : Pure Tryz.prog 93 [.int .i64 a] (.bool (decide (a.natAbs ≤ 999999999999999999))) := by
  intro σ
  refine a93 (by simp) ?_
  repeat' (first | (simp (disch := first | assumption | omega | (simp only [List.length_append, List.length_cons, List.length_nil]; omega)) only [go_sem, reduceCtorEq, Nat.reduceEqDiff, Nat.reduceAdd, Nat.reduceSub, Nat.reduceMul, Nat.reduceLeDiff, Int.reduceLT, Int.reduceLE, Int.reduceEq, ↓reduceIte, Int.reduceNeg, Int.reduceAdd, Int.reduceSub, Int.reduceMul, true_imp_iff, forall_const, Nat.mul_one, Int.reduceToNat, Nat.reducePow, Int.reducePow, Bool.true_and, Bool.false_and, Bool.and_false]) | with_reducible refine gC_d (fun h => ?_) (fun h => ?_) | with_reducible refine gC_dn (fun h => ?_) (fun h => ?_) | with_reducible refine condC_d (fun h => ?_) (fun h => ?_) | with_reducible refine condC_n (fun h => ?_) (fun h => ?_) | with_reducible refine condC_b (fun h => ?_) (fun h => ?_) | with_reducible refine boxC_by ?_ fun b hb => ?_)
  all_goals (refine retC_by (by repeat' (first | exact Drop.refl _ | with_reducible refine Drop.off ?_ (by assumption))) (.refl _) ⟨?_, rfl⟩)
  · have e : decide (a ≤ 999999999999999999) = decide (a.natAbs ≤ 999999999999999999) := decide_eq_decide.2 (by omega)
    rw [← e]; rfl
  · rfl
end Go.A
namespace Go.A
open Go.Proofs
set_option maxRecDepth 100000
set_option linter.unusedSimpArgs false
set_option linter.unusedVariables false
theorem dtext_ok {σ : ASt} (h : Tab σ) {a : Int} (ha : a.natAbs ≤ 999999999999999999) : ACalls Tryz.prog 57 [.int .i64 a] σ fun v σ' => v = .str (textD a) ∧ σ' = σ := by
  have hS := size_ok a (by omega) (by omega)
  obtain ⟨T, hT⟩ : ∃ T, textD a = T := ⟨_, rfl⟩
  rw [hT]
  unfold textD placesP at hT
  obtain ⟨s, hs⟩ : ∃ s, a.natAbs = s := ⟨_, rfl⟩
  rw [hs] at hS hT ha
  have hd : (s : Int).tdiv 10000 = ((s / 10000 : Nat) : Int) := by rw [Int.tdiv_eq_ediv_of_nonneg (by omega)]; rfl
  have hm : (s : Int).tmod 10000 = ((s % 10000 : Nat) : Int) := by rw [Int.tmod_eq_emod_of_nonneg (by omega)]; rfl
  have hp : s % 10000 < 10000 := Nat.mod_lt _ (by omega)
  have hw : s / 10000 ≤ 99999999999999 := by omega
  obtain ⟨p, hpp⟩ : ∃ p, s % 10000 = p := ⟨_, rfl⟩
  obtain ⟨q, hqq⟩ : ∃ q, s / 10000 = q := ⟨_, rfl⟩
  rw [hpp] at hp hm hT
  rw [hqq] at hd hw hT
  have hqw : IntKind.u64.wrap (q : Int) = q := by rw [IntKind.wrap_u64]; omega
  refine a57 (by simp) ?_
  simp (disch := first | assumption | omega | (simp only [List.length_append, List.length_cons, List.length_nil]; omega)) only [go_sem, reduceCtorEq, Nat.reduceEqDiff, Nat.reduceAdd, Nat.reduceSub, Nat.reduceMul, Nat.reduceLeDiff, Int.reduceLT, Int.reduceLE, Int.reduceEq, ↓reduceIte, Int.reduceNeg, Int.reduceAdd, Int.reduceSub, Int.reduceMul, true_imp_iff, forall_const, Nat.mul_one, Int.reduceToNat, Nat.reducePow, Int.reducePow, Bool.true_and, Bool.false_and, Bool.and_false]
  refine hS.use ?_
  simp (disch := first | assumption | omega | (simp only [List.length_append, List.length_cons, List.length_nil]; omega)) only [go_sem, reduceCtorEq, Nat.reduceEqDiff, Nat.reduceAdd, Nat.reduceSub, Nat.reduceMul, Nat.reduceLeDiff, Int.reduceLT, Int.reduceLE, Int.reduceEq, ↓reduceIte, Int.reduceNeg, Int.reduceAdd, Int.reduceSub, Int.reduceMul, true_imp_iff, forall_const, Nat.mul_one, Int.reduceToNat, Nat.reducePow, Int.reducePow, Bool.true_and, Bool.false_and, Bool.and_false, hd, hqw]
  refine (fmt_ok h (u := q) (by omega)).mono ?_
  rintro v σ' ⟨rfl, rfl⟩
  simp (disch := first | assumption | omega | (simp only [List.length_append, List.length_cons, List.length_nil]; omega)) only [go_sem, reduceCtorEq, Nat.reduceEqDiff, Nat.reduceAdd, Nat.reduceSub, Nat.reduceMul, Nat.reduceLeDiff, Int.reduceLT, Int.reduceLE, Int.reduceEq, ↓reduceIte, Int.reduceNeg, Int.reduceAdd, Int.reduceSub, Int.reduceMul, true_imp_iff, forall_const, Nat.mul_one, Int.reduceToNat, Nat.reducePow, Int.reducePow, Bool.true_and, Bool.false_and, Bool.and_false, hm]
  have hql : (Lib.decDigits q).length ≤ 15 := dd_len 14 q (by omega)
  by_cases h0 : p = 0
  · subst h0
    rw [if_pos rfl, List.append_nil] at hT
    have g0 : ¬ (0 : Int) < ((0 : Nat) : Int) := by omega
    simp (disch := first | assumption | omega | (simp only [List.length_append, List.length_cons, List.length_nil]; omega)) only [go_sem, reduceCtorEq, Nat.reduceEqDiff, Nat.reduceAdd, Nat.reduceSub, Nat.reduceMul, Nat.reduceLeDiff, Int.reduceLT, Int.reduceLE, Int.reduceEq, ↓reduceIte, Int.reduceNeg, Int.reduceAdd, Int.reduceSub, Int.reduceMul, true_imp_iff, forall_const, Nat.mul_one, Int.reduceToNat, Nat.reducePow, Int.reducePow, Bool.true_and, Bool.false_and, Bool.and_false, g0]
    by_cases hn : a < 0
    · have e1 : binS .add [45] (Lib.decDigits q) = some (.str T) := by rw [binS_add (by simp; omega), ← hT, if_pos hn]
      simp (disch := first | assumption | omega | (simp only [List.length_append, List.length_cons, List.length_nil]; omega)) only [go_sem, reduceCtorEq, Nat.reduceEqDiff, Nat.reduceAdd, Nat.reduceSub, Nat.reduceMul, Nat.reduceLeDiff, Int.reduceLT, Int.reduceLE, Int.reduceEq, ↓reduceIte, Int.reduceNeg, Int.reduceAdd, Int.reduceSub, Int.reduceMul, true_imp_iff, forall_const, Nat.mul_one, Int.reduceToNat, Nat.reducePow, Int.reducePow, Bool.true_and, Bool.false_and, Bool.and_false, hn, e1]
      exact retC_by (by repeat' (first | exact Drop.refl _ | with_reducible refine Drop.off ?_ (by assumption))) (.refl _) ⟨rfl, rfl⟩
    · rw [if_neg hn, List.nil_append] at hT
      subst hT
      simp (disch := first | assumption | omega | (simp only [List.length_append, List.length_cons, List.length_nil]; omega)) only [go_sem, reduceCtorEq, Nat.reduceEqDiff, Nat.reduceAdd, Nat.reduceSub, Nat.reduceMul, Nat.reduceLeDiff, Int.reduceLT, Int.reduceLE, Int.reduceEq, ↓reduceIte, Int.reduceNeg, Int.reduceAdd, Int.reduceSub, Int.reduceMul, true_imp_iff, forall_const, Nat.mul_one, Int.reduceToNat, Nat.reducePow, Int.reducePow, Bool.true_and, Bool.false_and, Bool.and_false, hn]
      exact retC_by (by repeat' (first | exact Drop.refl _ | with_reducible refine Drop.off ?_ (by assumption))) (.refl _) ⟨rfl, rfl⟩
  · rw [if_neg h0] at hT
    have g0 : (0 : Int) < (p : Int) := by omega
    have hDl : (Lib.decDigits (10000 + p)).length ≤ 5 := dd_len 4 _ (by omega)
    have hD1 : 1 ≤ (Lib.decDigits (10000 + p)).length := List.length_pos_iff.2 (dd_len_pos _)
    have hF := fmt_ok h (u := 10000 + p) (by omega)
    rw [show (((10000 + p : Nat) : Int)) = (10000 : Int) + p by omega] at hF
    have htl : (Lib.decDigits (10000 + p)).tail.length ≤ 4 := by rw [List.length_tail]; omega
    rw [← List.drop_one] at hT htl
    generalize Lib.decDigits (10000 + p) = D at *
    have hR := trimRight_ok (D.drop 1) 48 (by decide) (by omega)
    have hRl : (Lib.trimRightB (D.drop 1) 48).length ≤ 4 := by
      have := congrArg List.length (trim_back 48 (D.drop 1))
      rw [List.length_append] at this
      omega
    generalize Lib.trimRightB (D.drop 1) 48 = X at *
    have e1 : binS .add [46] X = some (.str (46 :: X)) := binS_add (by simp; omega)
    have e2 : binS .add (Lib.decDigits q) (46 :: X) = some (.str (Lib.decDigits q ++ 46 :: X)) := binS_add (by simp; omega)
    have g5 : (1 : Int) ≤ D.length := by omega
    simp (disch := first | assumption | omega | (simp only [List.length_append, List.length_cons, List.length_nil]; omega)) only [go_sem, reduceCtorEq, Nat.reduceEqDiff, Nat.reduceAdd, Nat.reduceSub, Nat.reduceMul, Nat.reduceLeDiff, Int.reduceLT, Int.reduceLE, Int.reduceEq, ↓reduceIte, Int.reduceNeg, Int.reduceAdd, Int.reduceSub, Int.reduceMul, true_imp_iff, forall_const, Nat.mul_one, Int.reduceToNat, Nat.reducePow, Int.reducePow, Bool.true_and, Bool.false_and, Bool.and_false, g0]
    refine hF.mono ?_
    rintro v σ' ⟨rfl, rfl⟩
    simp (disch := first | assumption | omega | (simp only [List.length_append, List.length_cons, List.length_nil]; omega)) only [go_sem, reduceCtorEq, Nat.reduceEqDiff, Nat.reduceAdd, Nat.reduceSub, Nat.reduceMul, Nat.reduceLeDiff, Int.reduceLT, Int.reduceLE, Int.reduceEq, ↓reduceIte, Int.reduceNeg, Int.reduceAdd, Int.reduceSub, Int.reduceMul, true_imp_iff, forall_const, Nat.mul_one, Int.reduceToNat, Nat.reducePow, Int.reducePow, Bool.true_and, Bool.false_and, Bool.and_false, g5, List.take_length]
    refine hR.use ?_
    simp (disch := first | assumption | omega | (simp only [List.length_append, List.length_cons, List.length_nil]; omega)) only [go_sem, reduceCtorEq, Nat.reduceEqDiff, Nat.reduceAdd, Nat.reduceSub, Nat.reduceMul, Nat.reduceLeDiff, Int.reduceLT, Int.reduceLE, Int.reduceEq, ↓reduceIte, Int.reduceNeg, Int.reduceAdd, Int.reduceSub, Int.reduceMul, true_imp_iff, forall_const, Nat.mul_one, Int.reduceToNat, Nat.reducePow, Int.reducePow, Bool.true_and, Bool.false_and, Bool.and_false, e1, e2]
    by_cases hn : a < 0
    · have e3 : binS .add [45] (Lib.decDigits q ++ 46 :: X) = some (.str T) := by rw [binS_add (by simp; omega), ← hT, if_pos hn]
      simp (disch := first | assumption | omega | (simp only [List.length_append, List.length_cons, List.length_nil]; omega)) only [go_sem, reduceCtorEq, Nat.reduceEqDiff, Nat.reduceAdd, Nat.reduceSub, Nat.reduceMul, Nat.reduceLeDiff, Int.reduceLT, Int.reduceLE, Int.reduceEq, ↓reduceIte, Int.reduceNeg, Int.reduceAdd, Int.reduceSub, Int.reduceMul, true_imp_iff, forall_const, Nat.mul_one, Int.reduceToNat, Nat.reducePow, Int.reducePow, Bool.true_and, Bool.false_and, Bool.and_false, hn, e3]
      exact retC_by (by repeat' (first | exact Drop.refl _ | with_reducible refine Drop.off ?_ (by assumption))) (.refl _) ⟨rfl, rfl⟩
    · rw [if_neg hn, List.nil_append] at hT
      subst hT
      simp (disch := first | assumption | omega | (simp only [List.length_append, List.length_cons, List.length_nil]; omega)) only [go_sem, reduceCtorEq, Nat.reduceEqDiff, Nat.reduceAdd, Nat.reduceSub, Nat.reduceMul, Nat.reduceLeDiff, Int.reduceLT, Int.reduceLE, Int.reduceEq, ↓reduceIte, Int.reduceNeg, Int.reduceAdd, Int.reduceSub, Int.reduceMul, true_imp_iff, forall_const, Nat.mul_one, Int.reduceToNat, Nat.reducePow, Int.reducePow, Bool.true_and, Bool.false_and, Bool.and_false, hn]
      exact retC_by (by repeat' (first | exact Drop.refl _ | with_reducible refine Drop.off ?_ (by assumption))) (.refl _) ⟨rfl, rfl⟩
end Go.A
namespace Go.A
open Go.Proofs
set_option maxRecDepth 100000
set_option linter.unusedSimpArgs false
set_option linter.unusedVariables false
theorem whole_ok {a : Int} (ha : a.natAbs ≤ 999999999999999999) : Pure Tryz.prog 50 [.int .i64 a] (.int .i64 (a.tdiv 10000)) := by
  intro σ
  have hqb : (a.tdiv 10000).natAbs ≤ a.natAbs := by rw [Int.natAbs_tdiv]; exact Nat.div_le_self _ _
  have e : IntKind.i64.wrap (a.tdiv 10000) = a.tdiv 10000 := by rw [IntKind.wrap_i64]; omega
  refine a50 (by simp) ?_
  simp (disch := first | assumption | omega | (simp only [List.length_append, List.length_cons, List.length_nil]; omega)) only [go_sem, reduceCtorEq, Nat.reduceEqDiff, Nat.reduceAdd, Nat.reduceSub, Nat.reduceMul, Nat.reduceLeDiff, Int.reduceLT, Int.reduceLE, Int.reduceEq, ↓reduceIte, Int.reduceNeg, Int.reduceAdd, Int.reduceSub, Int.reduceMul, true_imp_iff, forall_const, Nat.mul_one, Int.reduceToNat, Nat.reducePow, Int.reducePow, Bool.true_and, Bool.false_and, Bool.and_false, e]
  exact retC_by (by repeat' (first | exact Drop.refl _ | with_reducible refine Drop.off ?_ (by assumption))) (.refl _) ⟨rfl, rfl⟩
theorem isInt_ok (a : Int) : Pure Tryz.prog 92 [.int .i64 a] (.bool (decide (a.tmod 10000 = 0))) := by
  intro σ
  refine a92 (by simp) ?_
  simp (disch := first | assumption | omega | (simp only [List.length_append, List.length_cons, List.length_nil]; omega)) only [go_sem, reduceCtorEq, Nat.reduceEqDiff, Nat.reduceAdd, Nat.reduceSub, Nat.reduceMul, Nat.reduceLeDiff, Int.reduceLT, Int.reduceLE, Int.reduceEq, ↓reduceIte, Int.reduceNeg, Int.reduceAdd, Int.reduceSub, Int.reduceMul, true_imp_iff, forall_const, Nat.mul_one, Int.reduceToNat, Nat.reducePow, Int.reducePow, Bool.true_and, Bool.false_and, Bool.and_false]
  exact retC_by (by repeat' (first | exact Drop.refl _ | with_reducible refine Drop.off ?_ (by assumption))) (.refl _) ⟨rfl, rfl⟩
theorem lcut_ok (s : List UInt8) (n : Nat) : Pure Tryz.prog 26 [.str s, .int .i64 n] (.str (s.take n)) := by
  intro σ
  refine a26 (by simp) ?_
  by_cases h : n < s.length
  · have h' : (n : Int) < s.length := by omega
    have g0 : (0 : Int) ≤ n := by omega
    have g1 : (n : Int) ≤ s.length := by omega
    simp (disch := first | assumption | omega | (simp only [List.length_append, List.length_cons, List.length_nil]; omega)) only [go_sem, reduceCtorEq, Nat.reduceEqDiff, Nat.reduceAdd, Nat.reduceSub, Nat.reduceMul, Nat.reduceLeDiff, Int.reduceLT, Int.reduceLE, Int.reduceEq, ↓reduceIte, Int.reduceNeg, Int.reduceAdd, Int.reduceSub, Int.reduceMul, true_imp_iff, forall_const, Nat.mul_one, Int.reduceToNat, Nat.reducePow, Int.reducePow, Bool.true_and, Bool.false_and, Bool.and_false, h', g0, g1]
    exact retC_by (by repeat' (first | exact Drop.refl _ | with_reducible refine Drop.off ?_ (by assumption))) (.refl _) ⟨rfl, rfl⟩
  · have h' : ¬ (n : Int) < s.length := by omega
    rw [List.take_of_length_le (by omega)]
    simp (disch := first | assumption | omega | (simp only [List.length_append, List.length_cons, List.length_nil]; omega)) only [go_sem, reduceCtorEq, Nat.reduceEqDiff, Nat.reduceAdd, Nat.reduceSub, Nat.reduceMul, Nat.reduceLeDiff, Int.reduceLT, Int.reduceLE, Int.reduceEq, ↓reduceIte, Int.reduceNeg, Int.reduceAdd, Int.reduceSub, Int.reduceMul, true_imp_iff, forall_const, Nat.mul_one, Int.reduceToNat, Nat.reducePow, Int.reducePow, Bool.true_and, Bool.false_and, Bool.and_false, h']
    exact retC_by (by repeat' (first | exact Drop.refl _ | with_reducible refine Drop.off ?_ (by assumption))) (.refl _) ⟨rfl, rfl⟩
end Go.A
namespace Go.A
open Go.Proofs
/-! 51: tabular/token.Errors -/
def c51_0 : ACode := .ops [
    ⟨(some 0), none, .q (.mv (.v (.sl .full []))), []⟩]
def c51_1 : ACode := .ops [
    ⟨(some 1), none, .q (.bsl 1 [(.v (.str [35, 68, 73, 86, 47, 48, 33])), (.v (.str [35, 78, 85, 77, 33])), (.v (.str [35, 86, 65, 76, 85, 69, 33])), (.v (.str [35, 82, 69, 70, 33])), (.v (.str [35, 78, 47, 65])), (.v (.str [35, 78, 65, 77, 69, 63])), (.v (.str [35, 67, 89, 67, 76, 69, 33]))]), []⟩,
    ⟨(some 0), none, .q (.mv (.t 1)), []⟩]
def c51_2 : ACode := .seq c51_1 .ret
def c51_3 : ACode := .seq c51_0 c51_2
@[go_sem] theorem c51_0_wp : type_of% (wp_of c51_0.eq_1) := wp_of c51_0.eq_1
@[go_sem] theorem c51_1_wp : type_of% (wp_of c51_1.eq_1) := wp_of c51_1.eq_1
@[go_sem] theorem c51_2_wp : type_of% (wp_of c51_2.eq_1) := wp_of c51_2.eq_1
@[go_sem] theorem c51_3_wp : type_of% (wp_of c51_3.eq_1) := wp_of c51_3.eq_1
def c51 : AFn := ⟨2, [.t 0], c51_3⟩
set_option maxRecDepth 100000 in
theorem c51_ok : compF Tryz.prog Tryz.f51 = some c51 := by kernel_rfl
theorem a51 {args : List AV} {σ : ASt} {R : AV → ASt → Prop} (hl : args.length ≤ 2) (h : c51_3.wp Tryz.prog (RetQ [.t 0] R) (init args) σ) : ACalls Tryz.prog 51 args σ R := acalls_of Tryz.func51 c51_ok hl h
/-! 121: tabular/token.word -/
def c121_0 : ACode := .ops [
    ⟨(some 2), none, .q (.mv (.v (.bool false))), []⟩]
def c121_1 : ACode := .ops [
    ⟨(some 3), none, .q (.mv (.t 0)), []⟩,
    ⟨(some 4), none, .q (.bin .geq (.t 3) (.v (.int .u8 48))), []⟩,
    ⟨(some 5), none, .q (.mv (.t 4)), []⟩,
    ⟨(some 6), (some (5, true)), .q (.mv (.t 0)), []⟩,
    ⟨(some 7), (some (5, true)), .q (.bin .leq (.t 6) (.v (.int .u8 57))), []⟩,
    ⟨(some 8), none, .q (.pick (.t 5) (.t 7) (.v (.bool false))), []⟩,
    ⟨(some 9), none, .q (.mv (.t 8)), []⟩,
    ⟨(some 10), (some (9, false)), .q (.mv (.t 0)), []⟩,
    ⟨(some 11), (some (9, false)), .q (.bin .geq (.t 10) (.v (.int .u8 97))), []⟩,
    ⟨(some 12), (some (9, false)), .q (.mv (.t 11)), []⟩,
    ⟨(some 13), (some (12, true)), .q (.mv (.t 0)), []⟩,
    ⟨(some 14), (some (12, true)), .q (.bin .leq (.t 13) (.v (.int .u8 122))), []⟩,
    ⟨(some 15), (some (9, false)), .q (.pick (.t 12) (.t 14) (.v (.bool false))), []⟩,
    ⟨(some 16), none, .q (.pick (.t 9) (.v (.bool true)) (.t 15)), []⟩,
    ⟨(some 17), none, .q (.mv (.t 16)), []⟩,
    ⟨(some 18), (some (17, false)), .q (.mv (.t 0)), []⟩,
    ⟨(some 19), (some (17, false)), .q (.bin .geq (.t 18) (.v (.int .u8 65))), []⟩,
    ⟨(some 20), (some (17, false)), .q (.mv (.t 19)), []⟩,
    ⟨(some 21), (some (20, true)), .q (.mv (.t 0)), []⟩,
    ⟨(some 22), (some (20, true)), .q (.bin .leq (.t 21) (.v (.int .u8 90))), []⟩,
    ⟨(some 23), (some (17, false)), .q (.pick (.t 20) (.t 22) (.v (.bool false))), []⟩,
    ⟨(some 24), none, .q (.pick (.t 17) (.v (.bool true)) (.t 23)), []⟩,
    ⟨(some 25), none, .q (.mv (.t 24)), []⟩,
    ⟨(some 26), (some (25, false)), .q (.mv (.t 0)), []⟩,
    ⟨(some 27), (some (25, false)), .q (.bin .eql (.t 26) (.v (.int .u8 95))), []⟩,
    ⟨(some 28), none, .q (.pick (.t 25) (.v (.bool true)) (.t 27)), []⟩,
    ⟨(some 29), none, .q (.mv (.t 28)), []⟩,
    ⟨(some 30), (some (29, false)), .q (.mv (.t 0)), []⟩,
    ⟨(some 31), (some (29, false)), .q (.bin .eql (.t 30) (.v (.int .u8 36))), []⟩,
    ⟨(some 32), none, .q (.pick (.t 29) (.v (.bool true)) (.t 31)), []⟩,
    ⟨(some 33), none, .q (.mv (.t 32)), []⟩,
    ⟨(some 34), (some (33, false)), .q (.mv (.t 0)), []⟩,
    ⟨(some 35), (some (33, false)), .q (.bin .eql (.t 34) (.v (.int .u8 46))), []⟩,
    ⟨(some 36), none, .q (.pick (.t 33) (.v (.bool true)) (.t 35)), []⟩,
    ⟨(some 2), none, .q (.mv (.t 36)), []⟩]
def c121_2 : ACode := .seq c121_1 .ret
def c121_3 : ACode := .seq c121_0 c121_2
@[go_sem] theorem c121_0_wp : type_of% (wp_of c121_0.eq_1) := wp_of c121_0.eq_1
@[go_sem] theorem c121_1_wp : type_of% (wp_of c121_1.eq_1) := wp_of c121_1.eq_1
@[go_sem] theorem c121_2_wp : type_of% (wp_of c121_2.eq_1) := wp_of c121_2.eq_1
@[go_sem] theorem c121_3_wp : type_of% (wp_of c121_3.eq_1) := wp_of c121_3.eq_1
def c121 : AFn := ⟨37, [.t 2], c121_3⟩
set_option maxRecDepth 100000 in
theorem c121_ok : compF Tryz.prog Tryz.f121 = some c121 := by kernel_rfl
theorem a121 {args : List AV} {σ : ASt} {R : AV → ASt → Prop} (hl : args.length ≤ 37) (h : c121_3.wp Tryz.prog (RetQ [.t 2] R) (init args) σ) : ACalls Tryz.prog 121 args σ R := acalls_of Tryz.func121 c121_ok hl h
/-! 137: tabular/token.isNum -/
def c137_0 : ACode := .ops [
    ⟨(some 2), none, .q (.mv (.v (.bool false))), []⟩]
def c137_1 : ACode := .ops [
    ⟨(some 9), none, .q (.mv (.t 0)), []⟩,
    ⟨(some 10), none, .e (.call 155 [(.t 9), (.v (.str [46]))]), []⟩,
    ⟨(some 8), none, .q (.mv (.t 10)), []⟩,
    ⟨(some 11), none, .q (.ext 0 (.t 8)), []⟩,
    ⟨(some 12), none, .q (.ext 1 (.t 8)), []⟩,
    ⟨(some 13), none, .q (.ext 2 (.t 8)), []⟩,
    ⟨(some 3), none, .q (.mv (.t 11)), []⟩,
    ⟨(some 4), none, .q (.mv (.t 12)), []⟩,
    ⟨(some 5), none, .q (.mv (.t 13)), []⟩]
def c137_2 : ACode := .ops [
    ⟨(some 14), none, .q (.mv (.t 3)), []⟩,
    ⟨(some 15), none, .q (.bin .eql (.t 14) (.v (.str []))), []⟩,
    ⟨(some 16), none, .q (.mv (.t 15)), []⟩,
    ⟨(some 17), (some (16, false)), .q (.mv (.t 5)), []⟩,
    ⟨(some 18), (some (16, false)), .q (.mv (.t 17)), []⟩,
    ⟨(some 19), (some (18, true)), .q (.mv (.t 4)), []⟩,
    ⟨(some 20), (some (18, true)), .q (.bin .eql (.t 19) (.v (.str []))), []⟩,
    ⟨(some 21), (some (18, true)), .q (.mv (.t 20)), []⟩,
    ⟨(some 22), (some (21, false)), .q (.mv (.t 4)), []⟩,
    ⟨(some 23), (some (21, false)), .q (.lenS (.t 22)), []⟩,
    ⟨(some 24), (some (21, false)), .q (.bin .gtr (.t 23) (.v (.int .i64 4))), []⟩,
    ⟨(some 25), (some (18, true)), .q (.pick (.t 21) (.v (.bool true)) (.t 24)), []⟩,
    ⟨(some 26), (some (16, false)), .q (.pick (.t 18) (.t 25) (.v (.bool false))), []⟩,
    ⟨(some 27), none, .q (.pick (.t 16) (.v (.bool true)) (.t 26)), []⟩]
def c137_3 : ACode := .ops [
    ⟨(some 2), none, .q (.mv (.v (.bool false))), []⟩]
def c137_4 : ACode := .seq c137_3 .ret
def c137_5 : ACode := .cond (.t 27) c137_4 .skip
def c137_6 : ACode := .seq c137_2 c137_5
def c137_7 : ACode := .ops [
    ⟨(some 28), none, .q (.mv (.t 3)), []⟩,
    ⟨(some 29), none, .q (.mv (.t 4)), []⟩,
    ⟨(some 30), none, .q (.bin .add (.t 28) (.t 29)), []⟩,
    ⟨(some 31), none, .e (.s2b (.t 30)), []⟩,
    ⟨(some 32), none, .q (.len (.t 31)), []⟩,
    ⟨(some 33), none, .q (.mv (.v (.int .i64 0))), []⟩]
def c137_8 : ACode := .ops [
    ⟨(some 34), none, .q (.bin .lss (.t 33) (.t 32)), []⟩]
def c137_9 : ACode := .cond (.t 34) .skip (.exit 0)
def c137_10 : ACode := .ops [
    ⟨(some 35), none, .q (.ia 1 (.t 31) (.t 33)), []⟩,
    ⟨(some 36), none, .q (.ld none (.t 35)), []⟩,
    ⟨(some 7), none, .q (.mv (.t 36)), []⟩]
def c137_11 : ACode := .ops [
    ⟨(some 37), none, .q (.mv (.t 7)), []⟩,
    ⟨(some 38), none, .e (.call 156 [(.t 37)]), []⟩,
    ⟨(some 39), none, .q (.un .not (.t 38)), []⟩]
def c137_12 : ACode := .ops [
    ⟨(some 2), none, .q (.mv (.v (.bool false))), []⟩]
def c137_13 : ACode := .seq c137_12 .ret
def c137_14 : ACode := .cond (.t 39) c137_13 .skip
def c137_15 : ACode := .seq c137_11 c137_14
def c137_16 : ACode := .seq c137_10 c137_15
def c137_17 : ACode := .block 1 c137_16
def c137_18 : ACode := .ops [
    ⟨(some 40), none, .q (.bin .add (.t 33) (.v (.int .i64 1))), []⟩,
    ⟨(some 33), none, .q (.mv (.t 40)), []⟩]
def c137_19 : ACode := .seq c137_17 c137_18
def c137_20 : ACode := .seq c137_9 c137_19
def c137_21 : ACode := .seq c137_8 c137_20
def c137_22 : ACode := .loop c137_21
def c137_23 : ACode := .block 0 c137_22
def c137_24 : ACode := .seq c137_7 c137_23
def c137_25 : ACode := .ops [
    ⟨(some 2), none, .q (.mv (.v (.bool true))), []⟩]
def c137_26 : ACode := .seq c137_25 .ret
def c137_27 : ACode := .seq c137_24 c137_26
def c137_28 : ACode := .seq c137_6 c137_27
def c137_29 : ACode := .seq c137_1 c137_28
def c137_30 : ACode := .seq c137_0 c137_29
@[go_sem] theorem c137_0_wp : type_of% (wp_of c137_0.eq_1) := wp_of c137_0.eq_1
@[go_sem] theorem c137_1_wp : type_of% (wp_of c137_1.eq_1) := wp_of c137_1.eq_1
@[go_sem] theorem c137_2_wp : type_of% (wp_of c137_2.eq_1) := wp_of c137_2.eq_1
@[go_sem] theorem c137_3_wp : type_of% (wp_of c137_3.eq_1) := wp_of c137_3.eq_1
@[go_sem] theorem c137_4_wp : type_of% (wp_of c137_4.eq_1) := wp_of c137_4.eq_1
@[go_sem] theorem c137_5_wp : type_of% (wp_of c137_5.eq_1) := wp_of c137_5.eq_1
@[go_sem] theorem c137_6_wp : type_of% (wp_of c137_6.eq_1) := wp_of c137_6.eq_1
@[go_sem] theorem c137_7_wp : type_of% (wp_of c137_7.eq_1) := wp_of c137_7.eq_1
@[go_sem] theorem c137_8_wp : type_of% (wp_of c137_8.eq_1) := wp_of c137_8.eq_1
@[go_sem] theorem c137_9_wp : type_of% (wp_of c137_9.eq_1) := wp_of c137_9.eq_1
@[go_sem] theorem c137_10_wp : type_of% (wp_of c137_10.eq_1) := wp_of c137_10.eq_1
@[go_sem] theorem c137_11_wp : type_of% (wp_of c137_11.eq_1) := wp_of c137_11.eq_1
@[go_sem] theorem c137_12_wp : type_of% (wp_of c137_12.eq_1) := wp_of c137_12.eq_1
@[go_sem] theorem c137_13_wp : type_of% (wp_of c137_13.eq_1) := wp_of c137_13.eq_1
@[go_sem] theorem c137_14_wp : type_of% (wp_of c137_14.eq_1) := wp_of c137_14.eq_1
@[go_sem] theorem c137_15_wp : type_of% (wp_of c137_15.eq_1) := wp_of c137_15.eq_1
@[go_sem] theorem c137_16_wp : type_of% (wp_of c137_16.eq_1) := wp_of c137_16.eq_1
@[go_sem] theorem c137_17_wp : type_of% (wp_of c137_17.eq_1) := wp_of c137_17.eq_1
@[go_sem] theorem c137_18_wp : type_of% (wp_of c137_18.eq_1) := wp_of c137_18.eq_1
@[go_sem] theorem c137_19_wp : type_of% (wp_of c137_19.eq_1) := wp_of c137_19.eq_1
@[go_sem] theorem c137_20_wp : type_of% (wp_of c137_20.eq_1) := wp_of c137_20.eq_1
@[go_sem] theorem c137_21_wp : type_of% (wp_of c137_21.eq_1) := wp_of c137_21.eq_1
@[go_sem] theorem c137_22_wp : type_of% (wp_of c137_22.eq_1) := wp_of c137_22.eq_1
@[go_sem] theorem c137_23_wp : type_of% (wp_of c137_23.eq_1) := wp_of c137_23.eq_1
@[go_sem] theorem c137_24_wp : type_of% (wp_of c137_24.eq_1) := wp_of c137_24.eq_1
@[go_sem] theorem c137_25_wp : type_of% (wp_of c137_25.eq_1) := wp_of c137_25.eq_1
@[go_sem] theorem c137_26_wp : type_of% (wp_of c137_26.eq_1) := wp_of c137_26.eq_1
@[go_sem] theorem c137_27_wp : type_of% (wp_of c137_27.eq_1) := wp_of c137_27.eq_1
@[go_sem] theorem c137_28_wp : type_of% (wp_of c137_28.eq_1) := wp_of c137_28.eq_1
@[go_sem] theorem c137_29_wp : type_of% (wp_of c137_29.eq_1) := wp_of c137_29.eq_1
@[go_sem] theorem c137_30_wp : type_of% (wp_of c137_30.eq_1) := wp_of c137_30.eq_1
def c137 : AFn := ⟨41, [.t 2], c137_30⟩
set_option maxRecDepth 100000 in
theorem c137_ok : compF Tryz.prog Tryz.f137 = some c137 := by kernel_rfl
theorem a137 {args : List AV} {σ : ASt} {R : AV → ASt → Prop} (hl : args.length ≤ 41) (h : c137_30.wp Tryz.prog (RetQ [.t 2] R) (init args) σ) : ACalls Tryz.prog 137 args σ R := acalls_of Tryz.func137 c137_ok hl h
/-! 138: tabular/token.isRef -/
def c138_0 : ACode := .ops [
    ⟨(some 2), none, .q (.mv (.v (.bool false))), []⟩]
def c138_1 : ACode := .ops [
    ⟨(some 6), none, .q (.mv (.t 0)), []⟩,
    ⟨(some 7), none, .e (.call 157 [(.t 6)]), []⟩,
    ⟨(some 5), none, .q (.mv (.t 7)), []⟩,
    ⟨(some 8), none, .q (.ext 0 (.t 5)), []⟩,
    ⟨(some 9), none, .q (.ext 1 (.t 5)), []⟩,
    ⟨(some 3), none, .e (.alloc [(.int .i64 0), (.int .i64 0), (.bool false), (.bool false)]), []⟩,
    ⟨none, none, .e (.store 4 (.t 3) (.t 8)), []⟩,
    ⟨(some 4), none, .q (.mv (.t 9)), []⟩]
def c138_2 : ACode := .ops [
    ⟨(some 10), none, .q (.mv (.t 4)), []⟩,
    ⟨(some 2), none, .q (.mv (.t 10)), []⟩]
def c138_3 : ACode := .seq c138_2 .ret
def c138_4 : ACode := .seq c138_1 c138_3
def c138_5 : ACode := .seq c138_0 c138_4
@[go_sem] theorem c138_0_wp : type_of% (wp_of c138_0.eq_1) := wp_of c138_0.eq_1
@[go_sem] theorem c138_1_wp : type_of% (wp_of c138_1.eq_1) := wp_of c138_1.eq_1
@[go_sem] theorem c138_2_wp : type_of% (wp_of c138_2.eq_1) := wp_of c138_2.eq_1
@[go_sem] theorem c138_3_wp : type_of% (wp_of c138_3.eq_1) := wp_of c138_3.eq_1
@[go_sem] theorem c138_4_wp : type_of% (wp_of c138_4.eq_1) := wp_of c138_4.eq_1
@[go_sem] theorem c138_5_wp : type_of% (wp_of c138_5.eq_1) := wp_of c138_5.eq_1
def c138 : AFn := ⟨11, [.t 2], c138_5⟩
set_option maxRecDepth 100000 in
theorem c138_ok : compF Tryz.prog Tryz.f138 = some c138 := by kernel_rfl
theorem a138 {args : List AV} {σ : ASt} {R : AV → ASt → Prop} (hl : args.length ≤ 11) (h : c138_5.wp Tryz.prog (RetQ [.t 2] R) (init args) σ) : ACalls Tryz.prog 138 args σ R := acalls_of Tryz.func138 c138_ok hl h
/-! 139: tabular/token.great -/
def c139_0 : ACode := .ops [
    ⟨(some 2), none, .q (.mv (.v (.str []))), []⟩]
def c139_1 : ACode := .ops [
    ⟨(some 6), none, .q (.mv (.t 0)), []⟩,
    ⟨(some 7), none, .e (.s2b (.t 6)), []⟩,
    ⟨(some 3), none, .q (.mv (.t 7)), []⟩]
def c139_2 : ACode := .ops [
    ⟨(some 8), none, .q (.mv (.t 3)), []⟩,
    ⟨(some 9), none, .q (.len (.t 8)), []⟩,
    ⟨(some 10), none, .q (.mv (.v (.int .i64 0))), []⟩]
def c139_3 : ACode := .ops [
    ⟨(some 11), none, .q (.bin .lss (.t 10) (.t 9)), []⟩]
def c139_4 : ACode := .cond (.t 11) .skip (.exit 0)
def c139_5 : ACode := .ops [
    ⟨(some 12), none, .q (.mv (.t 10)), []⟩,
    ⟨(some 13), none, .q (.ia 1 (.t 8) (.t 10)), []⟩,
    ⟨(some 14), none, .q (.ld none (.t 13)), []⟩,
    ⟨(some 4), none, .q (.mv (.t 12)), []⟩,
    ⟨(some 5), none, .q (.mv (.t 14)), []⟩]
def c139_6 : ACode := .ops [
    ⟨(some 15), none, .q (.mv (.t 5)), []⟩,
    ⟨(some 16), none, .q (.bin .geq (.t 15) (.v (.int .u8 97))), []⟩,
    ⟨(some 17), none, .q (.mv (.t 16)), []⟩,
    ⟨(some 18), (some (17, true)), .q (.mv (.t 5)), []⟩,
    ⟨(some 19), (some (17, true)), .q (.bin .leq (.t 18) (.v (.int .u8 122))), []⟩,
    ⟨(some 20), none, .q (.pick (.t 17) (.t 19) (.v (.bool false))), []⟩]
def c139_7 : ACode := .ops [
    ⟨(some 21), none, .q (.mv (.t 3)), []⟩,
    ⟨(some 22), none, .q (.mv (.t 4)), []⟩,
    ⟨(some 23), none, .q (.mv (.t 5)), []⟩,
    ⟨(some 24), none, .q (.bin .sub (.t 23) (.v (.int .u8 32))), []⟩,
    ⟨(some 25), none, .q (.ia 1 (.t 21) (.t 22)), []⟩,
    ⟨none, none, .e (.store 1 (.t 25) (.t 24)), []⟩]
def c139_8 : ACode := .cond (.t 20) c139_7 .skip
def c139_9 : ACode := .seq c139_6 c139_8
def c139_10 : ACode := .seq c139_5 c139_9
def c139_11 : ACode := .block 1 c139_10
def c139_12 : ACode := .ops [
    ⟨(some 26), none, .q (.bin .add (.t 10) (.v (.int .i64 1))), []⟩,
    ⟨(some 10), none, .q (.mv (.t 26)), []⟩]
def c139_13 : ACode := .seq c139_11 c139_12
def c139_14 : ACode := .seq c139_4 c139_13
def c139_15 : ACode := .seq c139_3 c139_14
def c139_16 : ACode := .loop c139_15
def c139_17 : ACode := .block 0 c139_16
def c139_18 : ACode := .seq c139_2 c139_17
def c139_19 : ACode := .ops [
    ⟨(some 27), none, .q (.mv (.t 3)), []⟩,
    ⟨(some 28), none, .q (.b2s (.t 27)), []⟩,
    ⟨(some 2), none, .q (.mv (.t 28)), []⟩]
def c139_20 : ACode := .seq c139_19 .ret
def c139_21 : ACode := .seq c139_18 c139_20
def c139_22 : ACode := .seq c139_1 c139_21
def c139_23 : ACode := .seq c139_0 c139_22
@[go_sem] theorem c139_0_wp : type_of% (wp_of c139_0.eq_1) := wp_of c139_0.eq_1
@[go_sem] theorem c139_1_wp : type_of% (wp_of c139_1.eq_1) := wp_of c139_1.eq_1
@[go_sem] theorem c139_2_wp : type_of% (wp_of c139_2.eq_1) := wp_of c139_2.eq_1
@[go_sem] theorem c139_3_wp : type_of% (wp_of c139_3.eq_1) := wp_of c139_3.eq_1
@[go_sem] theorem c139_4_wp : type_of% (wp_of c139_4.eq_1) := wp_of c139_4.eq_1
@[go_sem] theorem c139_5_wp : type_of% (wp_of c139_5.eq_1) := wp_of c139_5.eq_1
@[go_sem] theorem c139_6_wp : type_of% (wp_of c139_6.eq_1) := wp_of c139_6.eq_1
@[go_sem] theorem c139_7_wp : type_of% (wp_of c139_7.eq_1) := wp_of c139_7.eq_1
@[go_sem] theorem c139_8_wp : type_of% (wp_of c139_8.eq_1) := wp_of c139_8.eq_1
@[go_sem] theorem c139_9_wp : type_of% (wp_of c139_9.eq_1) := wp_of c139_9.eq_1
@[go_sem] theorem c139_10_wp : type_of% (wp_of c139_10.eq_1) := wp_of c139_10.eq_1
@[go_sem] theorem c139_11_wp : type_of% (wp_of c139_11.eq_1) := wp_of c139_11.eq_1
@[go_sem] theorem c139_12_wp : type_of% (wp_of c139_12.eq_1) := wp_of c139_12.eq_1
@[go_sem] theorem c139_13_wp : type_of% (wp_of c139_13.eq_1) := wp_of c139_13.eq_1
@[go_sem] theorem c139_14_wp : type_of% (wp_of c139_14.eq_1) := wp_of c139_14.eq_1
@[go_sem] theorem c139_15_wp : type_of% (wp_of c139_15.eq_1) := wp_of c139_15.eq_1
@[go_sem] theorem c139_16_wp : type_of% (wp_of c139_16.eq_1) := wp_of c139_16.eq_1
@[go_sem] theorem c139_17_wp : type_of% (wp_of c139_17.eq_1) := wp_of c139_17.eq_1
@[go_sem] theorem c139_18_wp : type_of% (wp_of c139_18.eq_1) := wp_of c139_18.eq_1
@[go_sem] theorem c139_19_wp : type_of% (wp_of c139_19.eq_1) := wp_of c139_19.eq_1
@[go_sem] theorem c139_20_wp : type_of% (wp_of c139_20.eq_1) := wp_of c139_20.eq_1
@[go_sem] theorem c139_21_wp : type_of% (wp_of c139_21.eq_1) := wp_of c139_21.eq_1
@[go_sem] theorem c139_22_wp : type_of% (wp_of c139_22.eq_1) := wp_of c139_22.eq_1
@[go_sem] theorem c139_23_wp : type_of% (wp_of c139_23.eq_1) := wp_of c139_23.eq_1
def c139 : AFn := ⟨29, [.t 2], c139_23⟩
set_option maxRecDepth 100000 in
theorem c139_ok : compF Tryz.prog Tryz.f139 = some c139 := by kernel_rfl
theorem a139 {args : List AV} {σ : ASt} {R : AV → ASt → Prop} (hl : args.length ≤ 29) (h : c139_23.wp Tryz.prog (RetQ [.t 2] R) (init args) σ) : ACalls Tryz.prog 139 args σ R := acalls_of Tryz.func139 c139_ok hl h
/-! 140: tabular/token.isName -/
def c140_0 : ACode := .ops [
    ⟨(some 2), none, .q (.mv (.v (.bool false))), []⟩]
def c140_1 : ACode := .ops [
    ⟨(some 4), none, .q (.mv (.t 0)), []⟩,
    ⟨(some 5), none, .q (.lenS (.t 4)), []⟩,
    ⟨(some 6), none, .q (.mv (.v (.int .i64 0))), []⟩]
def c140_2 : ACode := .ops [
    ⟨(some 7), none, .q (.bin .lss (.t 6) (.t 5)), []⟩]
def c140_3 : ACode := .cond (.t 7) .skip (.exit 0)
def c140_4 : ACode := .ops [
    ⟨(some 8), none, .q (.mv (.t 6)), []⟩,
    ⟨(some 3), none, .q (.mv (.t 8)), []⟩]
def c140_5 : ACode := .ops [
    ⟨(some 9), none, .q (.mv (.t 0)), []⟩,
    ⟨(some 10), none, .q (.mv (.t 3)), []⟩,
    ⟨(some 11), none, .q (.idx (.t 9) (.t 10)), []⟩,
    ⟨(some 12), none, .e (.call 121 [(.t 11)]), []⟩,
    ⟨(some 13), none, .q (.un .not (.t 12)), []⟩,
    ⟨(some 14), none, .q (.mv (.t 13)), []⟩,
    ⟨(some 15), (some (14, false)), .q (.mv (.t 0)), []⟩,
    ⟨(some 16), (some (14, false)), .q (.mv (.t 3)), []⟩,
    ⟨(some 17), (some (14, false)), .q (.idx (.t 15) (.t 16)), []⟩,
    ⟨(some 18), (some (14, false)), .q (.bin .eql (.t 17) (.v (.int .u8 36))), []⟩,
    ⟨(some 19), none, .q (.pick (.t 14) (.v (.bool true)) (.t 18)), []⟩,
    ⟨(some 20), none, .q (.mv (.t 19)), []⟩,
    ⟨(some 21), (some (20, false)), .q (.mv (.t 3)), []⟩,
    ⟨(some 22), (some (20, false)), .q (.bin .eql (.t 21) (.v (.int .i64 0))), []⟩,
    ⟨(some 23), (some (20, false)), .q (.mv (.t 22)), []⟩,
    ⟨(some 24), (some (23, true)), .q (.mv (.t 0)), []⟩,
    ⟨(some 25), (some (23, true)), .q (.mv (.t 3)), []⟩,
    ⟨(some 26), (some (23, true)), .q (.idx (.t 24) (.t 25)), []⟩,
    ⟨(some 27), (some (23, true)), .e (.call 156 [(.t 26)]), []⟩,
    ⟨(some 28), (some (23, true)), .q (.mv (.t 27)), []⟩,
    ⟨(some 29), (some (28, false)), .q (.mv (.t 0)), []⟩,
    ⟨(some 30), (some (28, false)), .q (.mv (.t 3)), []⟩,
    ⟨(some 31), (some (28, false)), .q (.idx (.t 29) (.t 30)), []⟩,
    ⟨(some 32), (some (28, false)), .q (.bin .eql (.t 31) (.v (.int .u8 46))), []⟩,
    ⟨(some 33), (some (23, true)), .q (.pick (.t 28) (.v (.bool true)) (.t 32)), []⟩,
    ⟨(some 34), (some (20, false)), .q (.pick (.t 23) (.t 33) (.v (.bool false))), []⟩,
    ⟨(some 35), none, .q (.pick (.t 20) (.v (.bool true)) (.t 34)), []⟩]
def c140_6 : ACode := .ops [
    ⟨(some 2), none, .q (.mv (.v (.bool false))), []⟩]
def c140_7 : ACode := .seq c140_6 .ret
def c140_8 : ACode := .cond (.t 35) c140_7 .skip
def c140_9 : ACode := .seq c140_5 c140_8
def c140_10 : ACode := .seq c140_4 c140_9
def c140_11 : ACode := .block 1 c140_10
def c140_12 : ACode := .ops [
    ⟨(some 36), none, .q (.bin .add (.t 6) (.v (.int .i64 1))), []⟩,
    ⟨(some 6), none, .q (.mv (.t 36)), []⟩]
def c140_13 : ACode := .seq c140_11 c140_12
def c140_14 : ACode := .seq c140_3 c140_13
def c140_15 : ACode := .seq c140_2 c140_14
def c140_16 : ACode := .loop c140_15
def c140_17 : ACode := .block 0 c140_16
def c140_18 : ACode := .seq c140_1 c140_17
def c140_19 : ACode := .ops [
    ⟨(some 37), none, .q (.mv (.t 0)), []⟩,
    ⟨(some 38), none, .q (.bin .neq (.t 37) (.v (.str []))), []⟩,
    ⟨(some 2), none, .q (.mv (.t 38)), []⟩]
def c140_20 : ACode := .seq c140_19 .ret
def c140_21 : ACode := .seq c140_18 c140_20
def c140_22 : ACode := .seq c140_0 c140_21
@[go_sem] theorem c140_0_wp : type_of% (wp_of c140_0.eq_1) := wp_of c140_0.eq_1
@[go_sem] theorem c140_1_wp : type_of% (wp_of c140_1.eq_1) := wp_of c140_1.eq_1
@[go_sem] theorem c140_2_wp : type_of% (wp_of c140_2.eq_1) := wp_of c140_2.eq_1
@[go_sem] theorem c140_3_wp : type_of% (wp_of c140_3.eq_1) := wp_of c140_3.eq_1
@[go_sem] theorem c140_4_wp : type_of% (wp_of c140_4.eq_1) := wp_of c140_4.eq_1
@[go_sem] theorem c140_5_wp : type_of% (wp_of c140_5.eq_1) := wp_of c140_5.eq_1
@[go_sem] theorem c140_6_wp : type_of% (wp_of c140_6.eq_1) := wp_of c140_6.eq_1
@[go_sem] theorem c140_7_wp : type_of% (wp_of c140_7.eq_1) := wp_of c140_7.eq_1
@[go_sem] theorem c140_8_wp : type_of% (wp_of c140_8.eq_1) := wp_of c140_8.eq_1
@[go_sem] theorem c140_9_wp : type_of% (wp_of c140_9.eq_1) := wp_of c140_9.eq_1
@[go_sem] theorem c140_10_wp : type_of% (wp_of c140_10.eq_1) := wp_of c140_10.eq_1
@[go_sem] theorem c140_11_wp : type_of% (wp_of c140_11.eq_1) := wp_of c140_11.eq_1
@[go_sem] theorem c140_12_wp : type_of% (wp_of c140_12.eq_1) := wp_of c140_12.eq_1
@[go_sem] theorem c140_13_wp : type_of% (wp_of c140_13.eq_1) := wp_of c140_13.eq_1
@[go_sem] theorem c140_14_wp : type_of% (wp_of c140_14.eq_1) := wp_of c140_14.eq_1
@[go_sem] theorem c140_15_wp : type_of% (wp_of c140_15.eq_1) := wp_of c140_15.eq_1
@[go_sem] theorem c140_16_wp : type_of% (wp_of c140_16.eq_1) := wp_of c140_16.eq_1
@[go_sem] theorem c140_17_wp : type_of% (wp_of c140_17.eq_1) := wp_of c140_17.eq_1
@[go_sem] theorem c140_18_wp : type_of% (wp_of c140_18.eq_1) := wp_of c140_18.eq_1
@[go_sem] theorem c140_19_wp : type_of% (wp_of c140_19.eq_1) := wp_of c140_19.eq_1
@[go_sem] theorem c140_20_wp : type_of% (wp_of c140_20.eq_1) := wp_of c140_20.eq_1
@[go_sem] theorem c140_21_wp : type_of% (wp_of c140_21.eq_1) := wp_of c140_21.eq_1
@[go_sem] theorem c140_22_wp : type_of% (wp_of c140_22.eq_1) := wp_of c140_22.eq_1
def c140 : AFn := ⟨39, [.t 2], c140_22⟩
set_option maxRecDepth 100000 in
theorem c140_ok : compF Tryz.prog Tryz.f140 = some c140 := by kernel_rfl
theorem a140 {args : List AV} {σ : ASt} {R : AV → ASt → Prop} (hl : args.length ≤ 39) (h : c140_22.wp Tryz.prog (RetQ [.t 2] R) (init args) σ) : ACalls Tryz.prog 140 args σ R := acalls_of Tryz.func140 c140_ok hl h
/-! 143: tabular/token.alike -/
def c143_0 : ACode := .ops [
    ⟨(some 2), none, .q (.mv (.v (.str []))), []⟩]
def c143_1 : ACode := .ops [
    ⟨(some 3), none, .q (.mv (.t 0)), []⟩]
def c143_2 : ACode := .ops [
    ⟨(some 5), none, .q (.bin .eql (.t 3) (.v (.int .i32 8804))), []⟩,
    ⟨(some 4), none, .q (.mv (.t 5)), []⟩]
def c143_3 : ACode := .ops [
    ⟨(some 2), none, .q (.mv (.v (.str [60, 61]))), []⟩]
def c143_4 : ACode := .seq c143_3 .ret
def c143_5 : ACode := .ops [
    ⟨(some 7), none, .q (.bin .eql (.t 3) (.v (.int .i32 8805))), []⟩,
    ⟨(some 6), none, .q (.mv (.t 7)), []⟩]
def c143_6 : ACode := .ops [
    ⟨(some 2), none, .q (.mv (.v (.str [62, 61]))), []⟩]
def c143_7 : ACode := .seq c143_6 .ret
def c143_8 : ACode := .ops [
    ⟨(some 9), none, .q (.bin .eql (.t 3) (.v (.int .i32 8800))), []⟩,
    ⟨(some 8), none, .q (.mv (.t 9)), []⟩]
def c143_9 : ACode := .ops [
    ⟨(some 2), none, .q (.mv (.v (.str [60, 62]))), []⟩]
def c143_10 : ACode := .seq c143_9 .ret
def c143_11 : ACode := .ops [
    ⟨(some 11), none, .q (.bin .eql (.t 3) (.v (.int .i32 215))), []⟩,
    ⟨(some 10), none, .q (.mv (.t 11)), []⟩]
def c143_12 : ACode := .ops [
    ⟨(some 2), none, .q (.mv (.v (.str [42]))), []⟩]
def c143_13 : ACode := .seq c143_12 .ret
def c143_14 : ACode := .ops [
    ⟨(some 13), none, .q (.bin .eql (.t 3) (.v (.int .i32 247))), []⟩,
    ⟨(some 12), none, .q (.mv (.t 13)), []⟩]
def c143_15 : ACode := .ops [
    ⟨(some 2), none, .q (.mv (.v (.str [47]))), []⟩]
def c143_16 : ACode := .seq c143_15 .ret
def c143_17 : ACode := .ops [
    ⟨(some 15), none, .q (.bin .eql (.t 3) (.v (.int .i32 8722))), []⟩,
    ⟨(some 14), none, .q (.mv (.t 15)), []⟩]
def c143_18 : ACode := .ops [
    ⟨(some 2), none, .q (.mv (.v (.str [45]))), []⟩]
def c143_19 : ACode := .seq c143_18 .ret
def c143_20 : ACode := .cond (.t 14) c143_19 .skip
def c143_21 : ACode := .seq c143_17 c143_20
def c143_22 : ACode := .cond (.t 12) c143_16 c143_21
def c143_23 : ACode := .seq c143_14 c143_22
def c143_24 : ACode := .cond (.t 10) c143_13 c143_23
def c143_25 : ACode := .seq c143_11 c143_24
def c143_26 : ACode := .cond (.t 8) c143_10 c143_25
def c143_27 : ACode := .seq c143_8 c143_26
def c143_28 : ACode := .cond (.t 6) c143_7 c143_27
def c143_29 : ACode := .seq c143_5 c143_28
def c143_30 : ACode := .cond (.t 4) c143_4 c143_29
def c143_31 : ACode := .seq c143_2 c143_30
def c143_32 : ACode := .block 0 c143_31
def c143_33 : ACode := .seq c143_1 c143_32
def c143_34 : ACode := .ops [
    ⟨(some 2), none, .q (.mv (.v (.str []))), []⟩]
def c143_35 : ACode := .seq c143_34 .ret
def c143_36 : ACode := .seq c143_33 c143_35
def c143_37 : ACode := .seq c143_0 c143_36
@[go_sem] theorem c143_0_wp : type_of% (wp_of c143_0.eq_1) := wp_of c143_0.eq_1
@[go_sem] theorem c143_1_wp : type_of% (wp_of c143_1.eq_1) := wp_of c143_1.eq_1
@[go_sem] theorem c143_2_wp : type_of% (wp_of c143_2.eq_1) := wp_of c143_2.eq_1
@[go_sem] theorem c143_3_wp : type_of% (wp_of c143_3.eq_1) := wp_of c143_3.eq_1
@[go_sem] theorem c143_4_wp : type_of% (wp_of c143_4.eq_1) := wp_of c143_4.eq_1
@[go_sem] theorem c143_5_wp : type_of% (wp_of c143_5.eq_1) := wp_of c143_5.eq_1
@[go_sem] theorem c143_6_wp : type_of% (wp_of c143_6.eq_1) := wp_of c143_6.eq_1
@[go_sem] theorem c143_7_wp : type_of% (wp_of c143_7.eq_1) := wp_of c143_7.eq_1
@[go_sem] theorem c143_8_wp : type_of% (wp_of c143_8.eq_1) := wp_of c143_8.eq_1
@[go_sem] theorem c143_9_wp : type_of% (wp_of c143_9.eq_1) := wp_of c143_9.eq_1
@[go_sem] theorem c143_10_wp : type_of% (wp_of c143_10.eq_1) := wp_of c143_10.eq_1
@[go_sem] theorem c143_11_wp : type_of% (wp_of c143_11.eq_1) := wp_of c143_11.eq_1
@[go_sem] theorem c143_12_wp : type_of% (wp_of c143_12.eq_1) := wp_of c143_12.eq_1
@[go_sem] theorem c143_13_wp : type_of% (wp_of c143_13.eq_1) := wp_of c143_13.eq_1
@[go_sem] theorem c143_14_wp : type_of% (wp_of c143_14.eq_1) := wp_of c143_14.eq_1
@[go_sem] theorem c143_15_wp : type_of% (wp_of c143_15.eq_1) := wp_of c143_15.eq_1
@[go_sem] theorem c143_16_wp : type_of% (wp_of c143_16.eq_1) := wp_of c143_16.eq_1
@[go_sem] theorem c143_17_wp : type_of% (wp_of c143_17.eq_1) := wp_of c143_17.eq_1
@[go_sem] theorem c143_18_wp : type_of% (wp_of c143_18.eq_1) := wp_of c143_18.eq_1
@[go_sem] theorem c143_19_wp : type_of% (wp_of c143_19.eq_1) := wp_of c143_19.eq_1
@[go_sem] theorem c143_20_wp : type_of% (wp_of c143_20.eq_1) := wp_of c143_20.eq_1
@[go_sem] theorem c143_21_wp : type_of% (wp_of c143_21.eq_1) := wp_of c143_21.eq_1
@[go_sem] theorem c143_22_wp : type_of% (wp_of c143_22.eq_1) := wp_of c143_22.eq_1
@[go_sem] theorem c143_23_wp : type_of% (wp_of c143_23.eq_1) := wp_of c143_23.eq_1
@[go_sem] theorem c143_24_wp : type_of% (wp_of c143_24.eq_1) := wp_of c143_24.eq_1
@[go_sem] theorem c143_25_wp : type_of% (wp_of c143_25.eq_1) := wp_of c143_25.eq_1
@[go_sem] theorem c143_26_wp : type_of% (wp_of c143_26.eq_1) := wp_of c143_26.eq_1
@[go_sem] theorem c143_27_wp : type_of% (wp_of c143_27.eq_1) := wp_of c143_27.eq_1
@[go_sem] theorem c143_28_wp : type_of% (wp_of c143_28.eq_1) := wp_of c143_28.eq_1
@[go_sem] theorem c143_29_wp : type_of% (wp_of c143_29.eq_1) := wp_of c143_29.eq_1
@[go_sem] theorem c143_30_wp : type_of% (wp_of c143_30.eq_1) := wp_of c143_30.eq_1
@[go_sem] theorem c143_31_wp : type_of% (wp_of c143_31.eq_1) := wp_of c143_31.eq_1
@[go_sem] theorem c143_32_wp : type_of% (wp_of c143_32.eq_1) := wp_of c143_32.eq_1
@[go_sem] theorem c143_33_wp : type_of% (wp_of c143_33.eq_1) := wp_of c143_33.eq_1
@[go_sem] theorem c143_34_wp : type_of% (wp_of c143_34.eq_1) := wp_of c143_34.eq_1
@[go_sem] theorem c143_35_wp : type_of% (wp_of c143_35.eq_1) := wp_of c143_35.eq_1
@[go_sem] theorem c143_36_wp : type_of% (wp_of c143_36.eq_1) := wp_of c143_36.eq_1
@[go_sem] theorem c143_37_wp : type_of% (wp_of c143_37.eq_1) := wp_of c143_37.eq_1
def c143 : AFn := ⟨16, [.t 2], c143_37⟩
set_option maxRecDepth 100000 in
theorem c143_ok : compF Tryz.prog Tryz.f143 = some c143 := by kernel_rfl
theorem a143 {args : List AV} {σ : ASt} {R : AV → ASt → Prop} (hl : args.length ≤ 16) (h : c143_37.wp Tryz.prog (RetQ [.t 2] R) (init args) σ) : ACalls Tryz.prog 143 args σ R := acalls_of Tryz.func143 c143_ok hl h
/-! 156: tabular/token.digit -/
def c156_0 : ACode := .ops [
    ⟨(some 2), none, .q (.mv (.v (.bool false))), []⟩]
def c156_1 : ACode := .ops [
    ⟨(some 3), none, .q (.mv (.t 0)), []⟩,
    ⟨(some 4), none, .q (.bin .geq (.t 3) (.v (.int .u8 48))), []⟩,
    ⟨(some 5), none, .q (.mv (.t 4)), []⟩,
    ⟨(some 6), (some (5, true)), .q (.mv (.t 0)), []⟩,
    ⟨(some 7), (some (5, true)), .q (.bin .leq (.t 6) (.v (.int .u8 57))), []⟩,
    ⟨(some 8), none, .q (.pick (.t 5) (.t 7) (.v (.bool false))), []⟩,
    ⟨(some 2), none, .q (.mv (.t 8)), []⟩]
def c156_2 : ACode := .seq c156_1 .ret
def c156_3 : ACode := .seq c156_0 c156_2
@[go_sem] theorem c156_0_wp : type_of% (wp_of c156_0.eq_1) := wp_of c156_0.eq_1
@[go_sem] theorem c156_1_wp : type_of% (wp_of c156_1.eq_1) := wp_of c156_1.eq_1
@[go_sem] theorem c156_2_wp : type_of% (wp_of c156_2.eq_1) := wp_of c156_2.eq_1
@[go_sem] theorem c156_3_wp : type_of% (wp_of c156_3.eq_1) := wp_of c156_3.eq_1
def c156 : AFn := ⟨9, [.t 2], c156_3⟩
set_option maxRecDepth 100000 in
theorem c156_ok : compF Tryz.prog Tryz.f156 = some c156 := by kernel_rfl
theorem a156 {args : List AV} {σ : ASt} {R : AV → ASt → Prop} (hl : args.length ≤ 9) (h : c156_3.wp Tryz.prog (RetQ [.t 2] R) (init args) σ) : ACalls Tryz.prog 156 args σ R := acalls_of Tryz.func156 c156_ok hl h
end Go.A
