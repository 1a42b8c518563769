/- Part 5 of what ExprTells leans on: Shelf Wz Wa Ga CodeGb Gb Gc CodeGd Gd CodeTg Tg Za Zu Gp Wc Ea Zd CodeEq Eq CodeWb Wb CodeH Hc Hd Hf CodeZe CodeZg Zg CodeZw Zw CodeEb Eb CodeEc. -/
import Derived.Shelf.Strings.Builder1
import Derived.Shelf.Strings.Builder2
import Derived.Shelf.Strings.Trim
import Derived.Shelf.Small.Utf8
import Derived.Shelf.Small.Strs
import Derived.Shelf.Strings.BuilderF
import Derived.Shelf.Strings.BuilderK
import Derived.Shelf.Utf8.RuneCount
import Derived.Shelf.Strings.Builder2Cap
import Derived.Shelf.Strconv.Itoa0
import Derived.Shelf.Strconv.Itoa1
import Derived.Shelf.LaysM
import Derived.Shelf.Strconv.Itoa2
import Derived.Shelf.Strconv.Itoa3
import Derived.Shelf.Strings.Search1
import Derived.Shelf.Strings.Search2
import Derived.Shelf.Strings.Search3
import Derived.Shelf.Strings.Count
import Derived.Shelf.Strings.Shaped
import Derived.Shelf.Strings.Split
import Derived.Shelf.Strings.Replace
import Derived.Shelf.Strings.SplitShaped
import Derived.Shelf.Unicode.Decode
import Derived.Shelf.Strings.Runes
import Derived.Shelf.Strings.RuneCount
import Derived.Shelf.Strings.AsciiSet
import Derived.Shelf.Unicode.DecodeSlow
import Derived.Shelf.Unicode.DecodeAny
import Derived.Shelf.Unicode.DecodeLast
import Derived.Shelf.Strings.BuilderCap
import Derived.Test.YtpkbdbjdiklepaaGreatDoorProg
import Derived.Lib.ItoaMem
import Derived.KernelRfl
import Derived.Lib.MapLaws
import Derived.Lib.RuneCount
import Derived.Lib.LaidU8
import Derived.Lib.ItoaNum
import Derived.Lib.Replace
import Derived.Lib.AppendIntMem
import Derived.BigCall
import Derived.BigGuard
import Derived.Test.YtpkbdbjdiklepaaGreatDoorZFExprTellsd
set_option linter.defProp false
set_option linter.unusedSimpArgs false
set_option linter.unusedVariables false
set_option maxRecDepth 100000
namespace Go.Proofs
open Go.Shelf
def Tryz.lays169_ren : Go.Shelf.Ren := ⟨fun | 169 => 26 | n => n, fun | 70 => 60 | 9 => 9 | 0 => 0 | 72 => 62 | 37 => 51 | 127 => 96 | 3 => 3 | 5 => 5 | n => n, fun | n => n⟩
theorem Tryz.lays169 : Go.Proofs.Lays.n169 Tryz.prog Tryz.lays169_ren := {
 mixed := by kernel_rfl
 f169 := Tryz.func26.trans (congrArg some (by kernel_rfl))
 t0 := Tryz.underlying0
 a0 := Tryz.isAgg0
 z0 := Tryz.sizeOf0
 v0 := Tryz.zeroValue0
 t3 := Tryz.underlying3
 a3 := Tryz.isAgg3
 z3 := Tryz.sizeOf3
 v3 := Tryz.zeroValue3
 t9 := Tryz.underlying9
 a9 := Tryz.isAgg9
 z9 := Tryz.sizeOf9
 v9 := Tryz.zeroValue9
 t37 := Tryz.underlying51
 a37 := Tryz.isAgg51
 z37 := Tryz.sizeOf51
 v37 := Tryz.zeroValue51
 t70 := Tryz.underlying60
 a70 := Tryz.isAgg60
 z70 := Tryz.sizeOf60
 v70 := Tryz.zeroValue60
 t72 := Tryz.underlying62
 a72 := Tryz.isAgg62
 z72 := Tryz.sizeOf62
 v72 := Tryz.zeroValue62
 t127 := Tryz.underlying96
 a127 := Tryz.isAgg96
 z127 := Tryz.sizeOf96
 v127 := Tryz.zeroValue96 }
theorem Tryz.Builder_Extra_169 : Builder.Extra Tryz.prog Tryz.lays169_ren := {
 sizeBuilder := by kernel_rfl
 liesBuilder := by kernel_rfl
 t5 := Tryz.underlying5
 a5 := Tryz.isAgg5
 z5 := Tryz.sizeOf5
 v5 := Tryz.zeroValue5
 infoByte := by kernel_rfl
 cellsByte := by kernel_rfl
 sizeByte := by kernel_rfl
 neB5 := by decide }
def Tryz.lays162_ren : Go.Shelf.Ren := ⟨fun | 162 => 67 | 232 => 78 | 227 => 79 | 234 => 80 | 236 => 81 | 228 => 88 | 271 => 89 | 151 => 90 | 120 => 101 | 197 => 94 | 152 => 102 | 260 => 107 | 137 => 110 | 119 => 111 | 224 => 112 | 225 => 113 | 217 => 115 | 266 => 117 | n => n, fun | 9 => 9 | 4 => 4 | 3 => 3 | 5 => 5 | 117 => 116 | 116 => 115 | 0 => 0 | 124 => 119 | 21 => 21 | 105 => 127 | 46 => 101 | 119 => 144 | 139 => 147 | 138 => 146 | n => n, fun | 3 => 2 | 4 => 3 | n => n⟩
theorem Tryz.lays162 : Go.Proofs.Lays.n162 Tryz.prog Tryz.lays162_ren := {
 mixed := by kernel_rfl
 f119 := Tryz.func111.trans (congrArg some (by kernel_rfl))
 f120 := Tryz.func101.trans (congrArg some (by kernel_rfl))
 f137 := Tryz.func110.trans (congrArg some (by kernel_rfl))
 f151 := Tryz.func90.trans (congrArg some (by kernel_rfl))
 f152 := Tryz.func102.trans (congrArg some (by kernel_rfl))
 f162 := Tryz.func67.trans (congrArg some (by kernel_rfl))
 f197 := Tryz.func94.trans (congrArg some (by kernel_rfl))
 f217 := Tryz.func115.trans (congrArg some (by kernel_rfl))
 f224 := Tryz.func112.trans (congrArg some (by kernel_rfl))
 f225 := Tryz.func113.trans (congrArg some (by kernel_rfl))
 f227 := Tryz.func79.trans (congrArg some (by kernel_rfl))
 f228 := Tryz.func88.trans (congrArg some (by kernel_rfl))
 f232 := Tryz.func78.trans (congrArg some (by kernel_rfl))
 f234 := Tryz.func80.trans (congrArg some (by kernel_rfl))
 f236 := Tryz.func81.trans (congrArg some (by kernel_rfl))
 f260 := Tryz.func107.trans (congrArg some (by kernel_rfl))
 f266 := Tryz.func117.trans (congrArg some (by kernel_rfl))
 f271 := Tryz.func89.trans (congrArg some (by kernel_rfl))
 t0 := Tryz.underlying0
 a0 := Tryz.isAgg0
 z0 := Tryz.sizeOf0
 v0 := Tryz.zeroValue0
 t3 := Tryz.underlying3
 a3 := Tryz.isAgg3
 z3 := Tryz.sizeOf3
 v3 := Tryz.zeroValue3
 t4 := Tryz.underlying4
 a4 := Tryz.isAgg4
 z4 := Tryz.sizeOf4
 v4 := Tryz.zeroValue4
 t5 := Tryz.underlying5
 a5 := Tryz.isAgg5
 z5 := Tryz.sizeOf5
 v5 := Tryz.zeroValue5
 t9 := Tryz.underlying9
 a9 := Tryz.isAgg9
 z9 := Tryz.sizeOf9
 v9 := Tryz.zeroValue9
 t21 := Tryz.underlying21
 a21 := Tryz.isAgg21
 z21 := Tryz.sizeOf21
 v21 := Tryz.zeroValue21
 t46 := Tryz.underlying101
 a46 := Tryz.isAgg101
 z46 := Tryz.sizeOf101
 v46 := Tryz.zeroValue101
 t105 := Tryz.underlying127
 a105 := Tryz.isAgg127
 z105 := Tryz.sizeOf127
 v105 := Tryz.zeroValue127
 t116 := Tryz.underlying115
 a116 := Tryz.isAgg115
 z116 := Tryz.sizeOf115
 t117 := Tryz.underlying116
 a117 := Tryz.isAgg116
 z117 := Tryz.sizeOf116
 v117 := Tryz.zeroValue116
 t119 := Tryz.underlying144
 a119 := Tryz.isAgg144
 z119 := Tryz.sizeOf144
 t124 := Tryz.underlying119
 a124 := Tryz.isAgg119
 z124 := Tryz.sizeOf119
 v124 := Tryz.zeroValue119
 t138 := Tryz.underlying146
 a138 := Tryz.isAgg146
 z138 := Tryz.sizeOf146
 v138 := Tryz.zeroValue146
 t139 := Tryz.underlying147
 a139 := Tryz.isAgg147
 z139 := Tryz.sizeOf147
 v139 := Tryz.zeroValue147
 g3 := by kernel_rfl
 g4 := by kernel_rfl }
open Go.RowKit in
theorem Tryz.strings_TrimRight_one (s : ByteArray) (c : UInt8) (hc : c.toNat < 128) (w : World) (hs : s.size ≤ 9223372036854775807) :
  Calls Tryz.prog 67 #[.string s, .string ⟨#[c]⟩] w fun e w' => e = .returned (.string ⟨(Lib.trimRightB s.data.toList c).toArray⟩) ∧ w' = w := Any.strings_TrimRight_one Tryz.lays162 s c hc w hs
def Tryz.lays283_ren : Go.Shelf.Ren := ⟨fun | 283 => 84 | n => n, fun | 3 => 3 | 9 => 9 | 4 => 4 | n => n, fun | n => n⟩
theorem Tryz.lays283 : Go.Proofs.Lays.n283 Tryz.prog Tryz.lays283_ren := {
 mixed := by kernel_rfl
 f283 := Tryz.func84.trans (congrArg some (by kernel_rfl))
 t3 := Tryz.underlying3
 a3 := Tryz.isAgg3
 z3 := Tryz.sizeOf3
 v3 := Tryz.zeroValue3
 t4 := Tryz.underlying4
 a4 := Tryz.isAgg4
 z4 := Tryz.sizeOf4
 v4 := Tryz.zeroValue4
 t9 := Tryz.underlying9
 a9 := Tryz.isAgg9
 z9 := Tryz.sizeOf9
 v9 := Tryz.zeroValue9 }
open Go.Lib in
theorem Tryz.internal_strconv_small (i : Nat) (h : i < 100) (w : World) :
  Calls Tryz.prog 84 #[.int .i64 i] w fun e w' => e = .returned (.string ⟨(Lib.decDigits i).toArray⟩) ∧ w' = w := Any.internal_strconv_small Tryz.lays283 i h w
def Tryz.laysM284_ren : Go.Shelf.Ren := ⟨fun | 284 => 85 | 129 => 97 | 317 => 96 | 318 => 98 | n => n, fun | 53 => 74 | 3 => 3 | 212 => 133 | 0 => 0 | 4 => 4 | 46 => 101 | 5 => 5 | 9 => 9 | n => n, fun | 17 => 0 | n => n⟩
theorem Tryz.laysM284 : Go.Proofs.LaysM.n284 Tryz.prog Tryz.laysM284_ren := {
 mixed := by kernel_rfl
 f129 := Tryz.func97.trans (congrArg some (by kernel_rfl))
 f284 := Tryz.func85.trans (congrArg some (by kernel_rfl))
 f317 := Tryz.func96.trans (congrArg some (by kernel_rfl))
 f318 := Tryz.func98.trans (congrArg some (by kernel_rfl))
 t0 := Tryz.underlying0
 a0 := Tryz.isAgg0
 z0 := Tryz.sizeOf0
 v0 := Tryz.zeroValue0
 t3 := Tryz.underlying3
 a3 := Tryz.isAgg3
 z3 := Tryz.sizeOf3
 v3 := Tryz.zeroValue3
 t4 := Tryz.underlying4
 a4 := Tryz.isAgg4
 z4 := Tryz.sizeOf4
 v4 := Tryz.zeroValue4
 t5 := Tryz.underlying5
 a5 := Tryz.isAgg5
 z5 := Tryz.sizeOf5
 v5 := Tryz.zeroValue5
 t9 := Tryz.underlying9
 a9 := Tryz.isAgg9
 z9 := Tryz.sizeOf9
 v9 := Tryz.zeroValue9
 t46 := Tryz.underlying101
 a46 := Tryz.isAgg101
 z46 := Tryz.sizeOf101
 v46 := Tryz.zeroValue101
 t53 := Tryz.underlying74
 a53 := Tryz.isAgg74
 z53 := Tryz.sizeOf74
 v53 := Tryz.zeroValue74
 t212 := Tryz.underlying133
 a212 := Tryz.isAgg133
 z212 := Tryz.sizeOf133
 v212 := Tryz.zeroValue133
 g17 := by kernel_rfl
 i0 := by kernel_rfl
 i3 := by kernel_rfl
 i4 := by kernel_rfl
 i5 := by kernel_rfl
 i9 := by kernel_rfl
 i46 := by kernel_rfl
 i53 := by kernel_rfl
 i212 := by kernel_rfl
 m17 := by kernel_rfl }
open Go.Lib in
theorem Tryz.internal_strconv_numDigits (u : Nat) (h1 : 1 ≤ u) (h2 : u < 18446744073709551616) (w : World) (htab : Lib.TabIs Tryz.prog w "internal/strconv.uint64pow10" .u64 Lib.pow10Tab) :
  Calls Tryz.prog 85 #[.int .u64 u] w fun e w' => e = .returned (.int .i64 (Lib.nDigits u)) ∧ w' = w := Any.internal_strconv_numDigits Tryz.laysM284 u h1 h2 w htab
def Tryz.lays285_ren : Go.Shelf.Ren := ⟨fun | 285 => 86 | n => n, fun | 37 => 51 | 53 => 74 | 3 => 3 | 4 => 4 | 51 => 134 | 9 => 9 | 5 => 5 | 0 => 0 | n => n, fun | n => n⟩
theorem Tryz.lays285 : Go.Proofs.Lays.n285 Tryz.prog Tryz.lays285_ren := {
 mixed := by kernel_rfl
 f285 := Tryz.func86.trans (congrArg some (by kernel_rfl))
 t0 := Tryz.underlying0
 a0 := Tryz.isAgg0
 z0 := Tryz.sizeOf0
 v0 := Tryz.zeroValue0
 t3 := Tryz.underlying3
 a3 := Tryz.isAgg3
 z3 := Tryz.sizeOf3
 v3 := Tryz.zeroValue3
 t4 := Tryz.underlying4
 a4 := Tryz.isAgg4
 z4 := Tryz.sizeOf4
 v4 := Tryz.zeroValue4
 t5 := Tryz.underlying5
 a5 := Tryz.isAgg5
 z5 := Tryz.sizeOf5
 v5 := Tryz.zeroValue5
 t9 := Tryz.underlying9
 a9 := Tryz.isAgg9
 z9 := Tryz.sizeOf9
 v9 := Tryz.zeroValue9
 t37 := Tryz.underlying51
 a37 := Tryz.isAgg51
 z37 := Tryz.sizeOf51
 v37 := Tryz.zeroValue51
 t51 := Tryz.underlying134
 a51 := Tryz.isAgg134
 z51 := Tryz.sizeOf134
 v51 := Tryz.zeroValue134
 t53 := Tryz.underlying74
 a53 := Tryz.isAgg74
 z53 := Tryz.sizeOf74
 v53 := Tryz.zeroValue74 }
open Go.RowKit Go.Sort Go.Lib in
theorem Tryz.internal_strconv_formatBase10 (blk off cap : Nat) (u : Nat) (d : Array UInt8) (w : World) (hH : Holds (fun (b : UInt8) => Value.int .u8 (b.toNat : Int)) w blk off d) (hu : u < 10 ^ d.size) (hu64 : u < 18446744073709551616) (hsz : d.size < 4611686018427387904) :
  Calls Tryz.prog 86 #[.slice (some ⟨blk, off, none⟩) d.size cap, .int .u64 u] w fun e w' =>
   e = .returned (.tuple #[]) ∧ ∃ (n v' : Nat) (dk : Array UInt8), w' = (putRow (fun (b : UInt8) => Value.int .u8 (b.toNat : Int)) w blk off dk).drewN n ∧ FmtInv d.size u 0 v' dk := Any.internal_strconv_formatBase10 Tryz.lays285 blk off cap u d w hH hu hu64 hsz
def Tryz.laysM246_ren : Go.Shelf.Ren := ⟨fun | 246 => 95 | 283 => 84 | 284 => 85 | 285 => 86 | 286 => 87 | 129 => 97 | 317 => 96 | 318 => 98 | 319 => 99 | 320 => 100 | 337 => 108 | 338 => 109 | n => n, fun | 2 => 2 | 3 => 3 | 9 => 9 | 4 => 4 | 171 => 121 | 0 => 0 | 53 => 74 | 37 => 51 | 5 => 5 | 173 => 124 | 212 => 133 | 51 => 134 | 20 => 20 | 213 => 135 | 46 => 101 | 232 => 148 | 233 => 149 | n => n, fun | 17 => 0 | 18 => 4 | 19 => 5 | n => n⟩
def Tryz.laysM243_ren : Go.Shelf.Ren := ⟨fun | 243 => 83 | 246 => 95 | 283 => 84 | 284 => 85 | 285 => 86 | 286 => 87 | 129 => 97 | 317 => 96 | 318 => 98 | 319 => 99 | 320 => 100 | 337 => 108 | 338 => 109 | n => n, fun | 3 => 3 | 9 => 9 | 2 => 2 | 4 => 4 | 171 => 121 | 0 => 0 | 53 => 74 | 37 => 51 | 5 => 5 | 173 => 124 | 212 => 133 | 51 => 134 | 20 => 20 | 213 => 135 | 46 => 101 | 232 => 148 | 233 => 149 | n => n, fun | 17 => 0 | 18 => 4 | 19 => 5 | n => n⟩
def Tryz.laysM171_ren : Go.Shelf.Ren := ⟨fun | 171 => 71 | 243 => 83 | 246 => 95 | 283 => 84 | 284 => 85 | 285 => 86 | 286 => 87 | 129 => 97 | 317 => 96 | 318 => 98 | 319 => 99 | 320 => 100 | 337 => 108 | 338 => 109 | n => n, fun | 3 => 3 | 9 => 9 | 2 => 2 | 4 => 4 | 171 => 121 | 0 => 0 | 53 => 74 | 37 => 51 | 5 => 5 | 173 => 124 | 212 => 133 | 51 => 134 | 20 => 20 | 213 => 135 | 46 => 101 | 232 => 148 | 233 => 149 | n => n, fun | 17 => 0 | 18 => 4 | 19 => 5 | n => n⟩
theorem Tryz.laysM171 : Go.Proofs.LaysM.n171 Tryz.prog Tryz.laysM171_ren := {
 mixed := by kernel_rfl
 f129 := Tryz.func97.trans (congrArg some (by kernel_rfl))
 f171 := Tryz.func71.trans (congrArg some (by kernel_rfl))
 f243 := Tryz.func83.trans (congrArg some (by kernel_rfl))
 f246 := Tryz.func95.trans (congrArg some (by kernel_rfl))
 f283 := Tryz.func84.trans (congrArg some (by kernel_rfl))
 f284 := Tryz.func85.trans (congrArg some (by kernel_rfl))
 f285 := Tryz.func86.trans (congrArg some (by kernel_rfl))
 f286 := Tryz.func87.trans (congrArg some (by kernel_rfl))
 f317 := Tryz.func96.trans (congrArg some (by kernel_rfl))
 f318 := Tryz.func98.trans (congrArg some (by kernel_rfl))
 f319 := Tryz.func99.trans (congrArg some (by kernel_rfl))
 f320 := Tryz.func100.trans (congrArg some (by kernel_rfl))
 f337 := Tryz.func108.trans (congrArg some (by kernel_rfl))
 f338 := Tryz.func109.trans (congrArg some (by kernel_rfl))
 t0 := Tryz.underlying0
 a0 := Tryz.isAgg0
 z0 := Tryz.sizeOf0
 v0 := Tryz.zeroValue0
 t2 := Tryz.underlying2
 a2 := Tryz.isAgg2
 z2 := Tryz.sizeOf2
 v2 := Tryz.zeroValue2
 t3 := Tryz.underlying3
 a3 := Tryz.isAgg3
 z3 := Tryz.sizeOf3
 v3 := Tryz.zeroValue3
 t4 := Tryz.underlying4
 a4 := Tryz.isAgg4
 z4 := Tryz.sizeOf4
 v4 := Tryz.zeroValue4
 t5 := Tryz.underlying5
 a5 := Tryz.isAgg5
 z5 := Tryz.sizeOf5
 v5 := Tryz.zeroValue5
 t9 := Tryz.underlying9
 a9 := Tryz.isAgg9
 z9 := Tryz.sizeOf9
 v9 := Tryz.zeroValue9
 t20 := Tryz.underlying20
 a20 := Tryz.isAgg20
 z20 := Tryz.sizeOf20
 v20 := Tryz.zeroValue20
 t37 := Tryz.underlying51
 a37 := Tryz.isAgg51
 z37 := Tryz.sizeOf51
 v37 := Tryz.zeroValue51
 t46 := Tryz.underlying101
 a46 := Tryz.isAgg101
 z46 := Tryz.sizeOf101
 v46 := Tryz.zeroValue101
 t51 := Tryz.underlying134
 a51 := Tryz.isAgg134
 z51 := Tryz.sizeOf134
 v51 := Tryz.zeroValue134
 t53 := Tryz.underlying74
 a53 := Tryz.isAgg74
 z53 := Tryz.sizeOf74
 v53 := Tryz.zeroValue74
 t171 := Tryz.underlying121
 a171 := Tryz.isAgg121
 z171 := Tryz.sizeOf121
 v171 := Tryz.zeroValue121
 t173 := Tryz.underlying124
 a173 := Tryz.isAgg124
 z173 := Tryz.sizeOf124
 v173 := Tryz.zeroValue124
 t212 := Tryz.underlying133
 a212 := Tryz.isAgg133
 z212 := Tryz.sizeOf133
 v212 := Tryz.zeroValue133
 t213 := Tryz.underlying135
 a213 := Tryz.isAgg135
 z213 := Tryz.sizeOf135
 t232 := Tryz.underlying148
 a232 := Tryz.isAgg148
 z232 := Tryz.sizeOf148
 v232 := Tryz.zeroValue148
 t233 := Tryz.underlying149
 a233 := Tryz.isAgg149
 z233 := Tryz.sizeOf149
 v233 := Tryz.zeroValue149
 g17 := by kernel_rfl
 g18 := by kernel_rfl
 g19 := by kernel_rfl
 i0 := by kernel_rfl
 i2 := by kernel_rfl
 i3 := by kernel_rfl
 i4 := by kernel_rfl
 i5 := by kernel_rfl
 i9 := by kernel_rfl
 i20 := by kernel_rfl
 i37 := by kernel_rfl
 i46 := by kernel_rfl
 i51 := by kernel_rfl
 i53 := by kernel_rfl
 i171 := by kernel_rfl
 i173 := by kernel_rfl
 i212 := by kernel_rfl
 i232 := by kernel_rfl
 i233 := by kernel_rfl
 m17 := by kernel_rfl
 m18 := by kernel_rfl
 m19 := by kernel_rfl }
open Go.RowKit Go.Sort Go.Lib in
theorem Tryz.strconv_Itoa (n : Int) (h0 : -9223372036854775808 ≤ n) (h1 : n ≤ 9223372036854775807) (w : World) (htab : Lib.TabIs Tryz.prog w "internal/strconv.uint64pow10" .u64 Lib.pow10Tab) :
  Calls Tryz.prog 71 #[.int .i64 n] w fun e w' => e = .returned (.string ⟨(Lib.itoa n).toArray⟩) ∧ ∃ k os, w' = grow (w.drewN k) os := Any.strconv_Itoa Tryz.laysM171 n h0 h1 w htab
def Tryz.lays154_ren : Go.Shelf.Ren := ⟨fun | 154 => 82 | 138 => 91 | 165 => 92 | 143 => 93 | 166 => 48 | 197 => 94 | 169 => 26 | 195 => 103 | 218 => 104 | 240 => 64 | 241 => 105 | 219 => 106 | 260 => 107 | 276 => 76 | 277 => 114 | 217 => 115 | 225 => 113 | 224 => 112 | 267 => 116 | 266 => 117 | 314 => 118 | n => n, fun | 9 => 9 | 3 => 3 | 4 => 4 | 72 => 62 | 0 => 0 | 76 => 89 | 105 => 127 | 21 => 21 | 5 => 5 | 70 => 60 | 20 => 20 | 37 => 51 | 75 => 88 | 127 => 96 | 164 => 111 | 46 => 101 | 119 => 144 | 139 => 147 | 138 => 146 | 146 => 150 | 51 => 134 | 80 => 56 | n => n, fun | 1 => 1 | 3 => 2 | 4 => 3 | n => n⟩
def Tryz.lays155_ren : Go.Shelf.Ren := ⟨fun | 155 => 68 | 154 => 82 | 138 => 91 | 165 => 92 | 143 => 93 | 166 => 48 | 197 => 94 | 169 => 26 | 195 => 103 | 218 => 104 | 240 => 64 | 241 => 105 | 219 => 106 | 260 => 107 | 276 => 76 | 277 => 114 | 217 => 115 | 225 => 113 | 224 => 112 | 267 => 116 | 266 => 117 | 314 => 118 | n => n, fun | 9 => 9 | 3 => 3 | 4 => 4 | 72 => 62 | 0 => 0 | 76 => 89 | 105 => 127 | 21 => 21 | 5 => 5 | 70 => 60 | 20 => 20 | 37 => 51 | 75 => 88 | 127 => 96 | 164 => 111 | 46 => 101 | 119 => 144 | 139 => 147 | 138 => 146 | 146 => 150 | 51 => 134 | 80 => 56 | n => n, fun | 1 => 1 | 3 => 2 | 4 => 3 | n => n⟩
theorem Tryz.lays155 : Go.Proofs.Lays.n155 Tryz.prog Tryz.lays155_ren := {
 mixed := by kernel_rfl
 f138 := Tryz.func91.trans (congrArg some (by kernel_rfl))
 f143 := Tryz.func93.trans (congrArg some (by kernel_rfl))
 f154 := Tryz.func82.trans (congrArg some (by kernel_rfl))
 f155 := Tryz.func68.trans (congrArg some (by kernel_rfl))
 f165 := Tryz.func92.trans (congrArg some (by kernel_rfl))
 f166 := Tryz.func48.trans (congrArg some (by kernel_rfl))
 f169 := Tryz.func26.trans (congrArg some (by kernel_rfl))
 f195 := Tryz.func103.trans (congrArg some (by kernel_rfl))
 f197 := Tryz.func94.trans (congrArg some (by kernel_rfl))
 f217 := Tryz.func115.trans (congrArg some (by kernel_rfl))
 f218 := Tryz.func104.trans (congrArg some (by kernel_rfl))
 f219 := Tryz.func106.trans (congrArg some (by kernel_rfl))
 f224 := Tryz.func112.trans (congrArg some (by kernel_rfl))
 f225 := Tryz.func113.trans (congrArg some (by kernel_rfl))
 f240 := Tryz.func64.trans (congrArg some (by kernel_rfl))
 f241 := Tryz.func105.trans (congrArg some (by kernel_rfl))
 f260 := Tryz.func107.trans (congrArg some (by kernel_rfl))
 f266 := Tryz.func117.trans (congrArg some (by kernel_rfl))
 f267 := Tryz.func116.trans (congrArg some (by kernel_rfl))
 f276 := Tryz.func76.trans (congrArg some (by kernel_rfl))
 f277 := Tryz.func114.trans (congrArg some (by kernel_rfl))
 f314 := Tryz.func118.trans (congrArg some (by kernel_rfl))
 t0 := Tryz.underlying0
 a0 := Tryz.isAgg0
 z0 := Tryz.sizeOf0
 v0 := Tryz.zeroValue0
 t3 := Tryz.underlying3
 a3 := Tryz.isAgg3
 z3 := Tryz.sizeOf3
 v3 := Tryz.zeroValue3
 t4 := Tryz.underlying4
 a4 := Tryz.isAgg4
 z4 := Tryz.sizeOf4
 v4 := Tryz.zeroValue4
 t5 := Tryz.underlying5
 a5 := Tryz.isAgg5
 z5 := Tryz.sizeOf5
 v5 := Tryz.zeroValue5
 t9 := Tryz.underlying9
 a9 := Tryz.isAgg9
 z9 := Tryz.sizeOf9
 v9 := Tryz.zeroValue9
 t20 := Tryz.underlying20
 a20 := Tryz.isAgg20
 z20 := Tryz.sizeOf20
 v20 := Tryz.zeroValue20
 t21 := Tryz.underlying21
 a21 := Tryz.isAgg21
 z21 := Tryz.sizeOf21
 v21 := Tryz.zeroValue21
 t37 := Tryz.underlying51
 a37 := Tryz.isAgg51
 z37 := Tryz.sizeOf51
 v37 := Tryz.zeroValue51
 t46 := Tryz.underlying101
 a46 := Tryz.isAgg101
 z46 := Tryz.sizeOf101
 v46 := Tryz.zeroValue101
 t51 := Tryz.underlying134
 a51 := Tryz.isAgg134
 z51 := Tryz.sizeOf134
 v51 := Tryz.zeroValue134
 t70 := Tryz.underlying60
 a70 := Tryz.isAgg60
 z70 := Tryz.sizeOf60
 v70 := Tryz.zeroValue60
 t72 := Tryz.underlying62
 a72 := Tryz.isAgg62
 z72 := Tryz.sizeOf62
 v72 := Tryz.zeroValue62
 t75 := Tryz.underlying88
 a75 := Tryz.isAgg88
 z75 := Tryz.sizeOf88
 v75 := Tryz.zeroValue88
 t76 := Tryz.underlying89
 a76 := Tryz.isAgg89
 z76 := Tryz.sizeOf89
 v76 := Tryz.zeroValue89
 t105 := Tryz.underlying127
 a105 := Tryz.isAgg127
 z105 := Tryz.sizeOf127
 v105 := Tryz.zeroValue127
 t119 := Tryz.underlying144
 a119 := Tryz.isAgg144
 z119 := Tryz.sizeOf144
 t127 := Tryz.underlying96
 a127 := Tryz.isAgg96
 z127 := Tryz.sizeOf96
 v127 := Tryz.zeroValue96
 t138 := Tryz.underlying146
 a138 := Tryz.isAgg146
 z138 := Tryz.sizeOf146
 v138 := Tryz.zeroValue146
 t139 := Tryz.underlying147
 a139 := Tryz.isAgg147
 z139 := Tryz.sizeOf147
 v139 := Tryz.zeroValue147
 t146 := Tryz.underlying150
 a146 := Tryz.isAgg150
 z146 := Tryz.sizeOf150
 v146 := Tryz.zeroValue150
 t164 := Tryz.underlying111
 a164 := Tryz.isAgg111
 z164 := Tryz.sizeOf111
 v164 := Tryz.zeroValue111
 g1 := by kernel_rfl
 g3 := by kernel_rfl
 g4 := by kernel_rfl }
theorem Tryz.Builder_Extra_155 : Builder.Extra Tryz.prog Tryz.lays155_ren := {
 sizeBuilder := by kernel_rfl
 liesBuilder := by kernel_rfl
 t5 := Tryz.underlying5
 a5 := Tryz.isAgg5
 z5 := Tryz.sizeOf5
 v5 := Tryz.zeroValue5
 infoByte := by kernel_rfl
 cellsByte := by kernel_rfl
 sizeByte := by kernel_rfl
 neB5 := by decide }
open Go.RowKit Go.Lib in
theorem Tryz.strings_ReplaceAll (s old new : ByteArray) (m : Int) (w : World) (hs : s.size < 4294967281) (hm : w.cell? ⟨1, 0, none⟩ = some (.int .i64 m)) (h1 : 1 ≤ old.size) (hlen : s.size + Lib.countB s old * new.size ≤ 140737488355328) :
  Calls Tryz.prog 68 #[.string s, .string old, .string new] w fun e w' =>
   e = .returned (.string ⟨(Lib.replaceAll s.data.toList old.data.toList new.data.toList).toArray⟩) ∧ Below w.heap.size w w' := Any.strings_ReplaceAll Tryz.lays155 Tryz.Builder_Extra_155 s old new m w hs hm h1 hlen
def Tryz.lays260_ren : Go.Shelf.Ren := ⟨fun | 260 => 107 | n => n, fun | 9 => 9 | 21 => 21 | 3 => 3 | 4 => 4 | 5 => 5 | 119 => 144 | 0 => 0 | 46 => 101 | 139 => 147 | 138 => 146 | n => n, fun | 3 => 2 | 4 => 3 | n => n⟩
theorem Tryz.lays260 : Go.Proofs.Lays.n260 Tryz.prog Tryz.lays260_ren := {
 mixed := by kernel_rfl
 f260 := Tryz.func107.trans (congrArg some (by kernel_rfl))
 t0 := Tryz.underlying0
 a0 := Tryz.isAgg0
 z0 := Tryz.sizeOf0
 v0 := Tryz.zeroValue0
 t3 := Tryz.underlying3
 a3 := Tryz.isAgg3
 z3 := Tryz.sizeOf3
 v3 := Tryz.zeroValue3
 t4 := Tryz.underlying4
 a4 := Tryz.isAgg4
 z4 := Tryz.sizeOf4
 v4 := Tryz.zeroValue4
 t5 := Tryz.underlying5
 a5 := Tryz.isAgg5
 z5 := Tryz.sizeOf5
 v5 := Tryz.zeroValue5
 t9 := Tryz.underlying9
 a9 := Tryz.isAgg9
 z9 := Tryz.sizeOf9
 v9 := Tryz.zeroValue9
 t21 := Tryz.underlying21
 a21 := Tryz.isAgg21
 z21 := Tryz.sizeOf21
 v21 := Tryz.zeroValue21
 t46 := Tryz.underlying101
 a46 := Tryz.isAgg101
 z46 := Tryz.sizeOf101
 v46 := Tryz.zeroValue101
 t119 := Tryz.underlying144
 a119 := Tryz.isAgg144
 z119 := Tryz.sizeOf144
 t138 := Tryz.underlying146
 a138 := Tryz.isAgg146
 z138 := Tryz.sizeOf146
 v138 := Tryz.zeroValue146
 t139 := Tryz.underlying147
 a139 := Tryz.isAgg147
 z139 := Tryz.sizeOf147
 v139 := Tryz.zeroValue147
 g3 := by kernel_rfl
 g4 := by kernel_rfl }
end Go.Proofs
namespace Go.A
open Go.Proofs
section
variable {P : Program} {σ : ASt} {w : World}
theorem reps_ints {k : IntKind} : ∀ {zs : List Int} {vs : List Value}, Reps σ w (zs.map (AV.int k)) vs → vs = zs.map (Value.int k)
 | [], vs, h => by cases h; rfl
 | z :: zs, vs, h => by
   cases h with
   | cons h1 h2 =>
     cases h1
     rw [reps_ints h2]
     rfl
theorem tabIs_of (hs : Sim σ w) {name : String} {b : Nat} {k : IntKind} {zs : List Int} (hg : P.globalNamed name = some b) (hb : σ b = some (.fix (zs.map (AV.int k)))) : Lib.TabIs P w name k zs := by
 obtain ⟨h1, c, T, fr, h2, h3⟩ := hs b _ hb
 obtain ⟨vs, h4, h5⟩ := h1.vals
 have h6 := reps_ints h4
 subst h6
 unfold Lib.TabIs World.var?
 rw [hg, Option.bind_some]
 simp only [h2]
 congr 1
 apply Array.ext
 ·simp [h3]
 ·intro j hj hj'
  have h7 := h5 j (Value.int k (zs[j]'(by simpa using hj'))) (by simp)
  simp only [World.cell?, h2, Nat.zero_add] at h7
  simp at h7 ⊢
  obtain ⟨_, h7⟩ := Array.getElem?_eq_some_iff.1 h7
  exact h7
theorem ACalls.of_ext {f : FuncId} {args : List AV} {r : AV} {u : Value} (h : ∀ w vs, Sim σ w → Reps σ w args vs → Calls P f ⟨vs⟩ w fun e w' => e = .returned u ∧ Ext w w') (hr : ∀ w, Rep σ w r u) : ACalls P f args σ fun v σ' => v = r ∧ σ' = σ :=
 fun w vs hs ha => (h w vs hs ha).mono fun e w' ⟨he, hx⟩ => ⟨u, r, σ, he, ⟨rfl, rfl⟩, ext_le hx, hs.ext hx, hr w'⟩
theorem ext_grow (w : World) (k : Nat) (os : Array Obj) : Ext w (Go.Sort.grow (w.drewN k) os) := ⟨⟨os, w.drawn + k⟩, rfl⟩
end
theorem Ext.of_eq {w w' : World} (h : w' = w) : Ext w w' := h ▸ Ext.refl w
def Tab (σ : ASt) : Prop := σ 0 = some (.fix (Lib.pow10Tab.map (AV.int .u64)))
theorem Tab.set {σ : ASt} {b : Nat} {r : Option Role} (h : Tab σ) (hb : σ b = none) : Tab (σ.set b r) := by
 unfold Tab at *
 rw [ASt.set_ne]
 ·exact h
 ·intro e; rw [← e, h] at hb; cases hb
end Go.A
namespace Go.A
open Go.Proofs
theorem itoa_ok {σ : ASt} (h : Tab σ) {n : Int} (h0 : -9223372036854775808 ≤ n) (h1 : n ≤ 9223372036854775807) : ACalls Tryz.prog 71 [.int .i64 n] σ fun v σ' => v = .str (Lib.itoa n) ∧ σ' = σ := by
 refine ACalls.of_ext (u := .string ⟨(Lib.itoa n).toArray⟩) (fun w vs hs ha => ?_) fun w => .str _
 cases ha with
 | cons h2 h3 =>
   cases h2; cases h3
   refine (Tryz.strconv_Itoa n h0 h1 w (tabIs_of hs (by kernel_rfl) h)).mono ?_
   rintro e w' ⟨he, k, os, rfl⟩
   exact ⟨he, ext_grow w k os⟩
end Go.A
namespace Go.A
open Go.Proofs
def letterP (c : Int) : Int := if 65 ≤ c ∧ c ≤ 90 then c - 64 else if 97 ≤ c ∧ c ≤ 122 then c - 96 else 0
structure Ref where
 row : Int
 col : Int
 absRow : Bool
 absCol : Bool
 deriving DecidableEq, Inhabited
def refAV (r : Ref) : AV := .agg [.int .i64 r.row, .int .i64 r.col, .bool r.absRow, .bool r.absCol]
def Ref.good (r : Ref) : Bool := decide (0 ≤ r.row ∧ r.row < 3000 ∧ 0 ≤ r.col ∧ r.col < 700)
def Ref.zero : Ref := ⟨0, 0, false, false⟩
end Go.A
namespace Go.A
open Go.Proofs
/-! 70: tabular/addr.Letters -/
def c70_0 : ACode := .ops [
 ⟨some 2, none, .q (.mv (.v (.str []))), []⟩]
def c70_1 : ACode := .ops [
 ⟨some 4, none, .q (.mv (.t 0)), []⟩,
 ⟨some 5, none, .q (.bin .lss (.t 4) (.v (.int .i64 0))), []⟩,
 ⟨some 6, none, .q (.mv (.t 5)), []⟩,
 ⟨some 7, some (6, false), .q (.mv (.t 0)), []⟩,
 ⟨some 8, some (6, false), .q (.bin .geq (.t 7) (.v (.int .i64 700))), []⟩,
 ⟨some 9, none, .q (.pick (.t 6) (.v (.bool true)) (.t 8)), []⟩]
def c70_2 : ACode := .ops [
 ⟨some 2, none, .q (.mv (.v (.str []))), []⟩]
def c70_3 : ACode := .seq c70_2 .ret
def c70_4 : ACode := .cond (.t 9) c70_3 .skip
def c70_5 : ACode := .seq c70_1 c70_4
def c70_6 : ACode := .ops [
 ⟨some 3, none, .q (.mv (.v (.str []))), []⟩]
def c70_7 : ACode := .ops [
 ⟨some 10, none, .q (.mv (.t 0)), []⟩,
 ⟨some 11, none, .q (.bin .add (.t 10) (.v (.int .i64 1))), []⟩,
 ⟨some 0, none, .q (.mv (.t 11)), []⟩]
def c70_8 : ACode := .ops [
 ⟨some 12, none, .q (.mv (.t 0)), []⟩,
 ⟨some 13, none, .q (.bin .gtr (.t 12) (.v (.int .i64 0))), []⟩]
def c70_9 : ACode := .cond (.t 13) .skip (.exit 0)
def c70_10 : ACode := .seq c70_8 c70_9
def c70_11 : ACode := .ops [
 ⟨some 17, none, .q (.mv (.t 0)), []⟩,
 ⟨some 18, none, .q (.bin .sub (.t 17) (.v (.int .i64 1))), []⟩,
 ⟨some 19, none, .q (.bin .rem (.t 18) (.v (.int .i64 26))), []⟩,
 ⟨some 20, none, .q (.bin .add (.v (.int .i64 65)) (.t 19)), []⟩,
 ⟨some 21, none, .q (.conv .u8 (.t 20)), []⟩,
 ⟨some 22, none, .q (.bsl 1 [(.t 21)]), []⟩,
 ⟨some 23, none, .q (.b2s (.t 22)), []⟩,
 ⟨some 24, none, .q (.mv (.t 3)), []⟩,
 ⟨some 25, none, .q (.bin .add (.t 23) (.t 24)), []⟩,
 ⟨some 3, none, .q (.mv (.t 25)), []⟩]
def c70_12 : ACode := .block 1 c70_11
def c70_13 : ACode := .ops [
 ⟨some 14, none, .q (.mv (.t 0)), []⟩,
 ⟨some 15, none, .q (.bin .sub (.t 14) (.v (.int .i64 1))), []⟩,
 ⟨some 16, none, .q (.bin .quo (.t 15) (.v (.int .i64 26))), []⟩,
 ⟨some 0, none, .q (.mv (.t 16)), []⟩]
def c70_14 : ACode := .seq c70_12 c70_13
def c70_15 : ACode := .seq c70_10 c70_14
def c70_16 : ACode := .loop c70_15
def c70_17 : ACode := .block 0 c70_16
def c70_18 : ACode := .seq c70_7 c70_17
def c70_19 : ACode := .ops [
 ⟨some 26, none, .q (.mv (.t 3)), []⟩,
 ⟨some 2, none, .q (.mv (.t 26)), []⟩]
def c70_20 : ACode := .seq c70_19 .ret
def c70_21 : ACode := .seq c70_18 c70_20
def c70_22 : ACode := .seq c70_6 c70_21
def c70_23 : ACode := .seq c70_5 c70_22
def c70_24 : ACode := .seq c70_0 c70_23
@[go_sem] def c70_0_wp := wp_of c70_0.eq_1
@[go_sem] def c70_1_wp := wp_of c70_1.eq_1
@[go_sem] def c70_2_wp := wp_of c70_2.eq_1
@[go_sem] def c70_3_wp := wp_of c70_3.eq_1
@[go_sem] def c70_4_wp := wp_of c70_4.eq_1
@[go_sem] def c70_5_wp := wp_of c70_5.eq_1
@[go_sem] def c70_6_wp := wp_of c70_6.eq_1
@[go_sem] def c70_7_wp := wp_of c70_7.eq_1
@[go_sem] def c70_8_wp := wp_of c70_8.eq_1
@[go_sem] def c70_9_wp := wp_of c70_9.eq_1
@[go_sem] def c70_10_wp := wp_of c70_10.eq_1
@[go_sem] def c70_11_wp := wp_of c70_11.eq_1
@[go_sem] def c70_12_wp := wp_of c70_12.eq_1
@[go_sem] def c70_13_wp := wp_of c70_13.eq_1
@[go_sem] def c70_14_wp := wp_of c70_14.eq_1
@[go_sem] def c70_15_wp := wp_of c70_15.eq_1
@[go_sem] def c70_16_wp := wp_of c70_16.eq_1
@[go_sem] def c70_17_wp := wp_of c70_17.eq_1
@[go_sem] def c70_18_wp := wp_of c70_18.eq_1
@[go_sem] def c70_19_wp := wp_of c70_19.eq_1
@[go_sem] def c70_20_wp := wp_of c70_20.eq_1
@[go_sem] def c70_21_wp := wp_of c70_21.eq_1
@[go_sem] def c70_22_wp := wp_of c70_22.eq_1
@[go_sem] def c70_23_wp := wp_of c70_23.eq_1
@[go_sem] def c70_24_wp := wp_of c70_24.eq_1
def c70 : AFn := ⟨27, [.t 2], c70_24⟩
theorem c70_ok : compF Tryz.prog Tryz.f70 = some c70 := by kernel_rfl
theorem a70 {args : List AV} {σ : ASt} {R : AV → ASt → Prop} (hl : args.length ≤ 27) (h : c70_24.wp Tryz.prog (RetQ [.t 2] R) (init args) σ) : ACalls Tryz.prog 70 args σ R := acalls_of Tryz.func70 c70_ok hl h
end Go.A
namespace Go.A
open Go.Proofs
def lettersF : Nat → Nat → List UInt8
 | 0, _ => []
 | k + 1, n => if n = 0 then [] else lettersF k ((n - 1) / 26) ++ [UInt8.ofNat (65 + (n - 1) % 26)]
def lettersP (col : Int) : List UInt8 := if col < 0 ∨ 700 ≤ col then [] else lettersF 4 (col + 1).toNat
theorem letters_ok (col : Int) : Pure Tryz.prog 70 [.int .i64 col] (.str (lettersP col)) := by
 intro σ
 obtain ⟨q, hq⟩ : ∃ q, lettersP col = q := ⟨_, rfl⟩
 rw [hq]
 unfold lettersP at hq
 refine a70 (by simp) ?_
 by_cases hc : col < 0 ∨ 700 ≤ col
 ·rw [if_pos hc] at hq
  subst hq
  repeat' (first | (simp (disch := first | assumption | omega) only [go_sem, reduceCtorEq, Nat.reduceEqDiff, ↓reduceIte]) | with_reducible refine gC_d (fun h => ?_) (fun h => ?_) | with_reducible refine gC_dn (fun h => ?_) (fun h => ?_) | with_reducible refine condC_d (fun h => ?_) (fun h => ?_) | with_reducible refine condC_n (fun h => ?_) (fun h => ?_) | with_reducible refine condC_b (fun h => ?_) (fun h => ?_) | with_reducible refine boxC_by ?_ fun b hb => ?_)
  all_goals first | (exfalso; omega) | exact retC_by (Drop.refl _) (.refl _) ⟨rfl, rfl⟩
 ·rw [if_neg hc] at hq
  obtain ⟨N, hN⟩ : ∃ N, (col + 1).toNat = N := ⟨_, rfl⟩
  rw [hN] at hq
  have h0 : ¬ col < 0 := by omega
  have h1 : ¬ 700 ≤ col := by omega
  have hc1 : col + 1 = (N : Int) := by omega
  simp (disch := first | assumption | omega) only [go_sem, reduceCtorEq, Nat.reduceEqDiff, ↓reduceIte, h0, h1, hc1]
  refine wp_loop_by (fun (i : Nat × Nat × List UInt8) a σ' => i.2.1 < 26 ^ i.1 ∧ i.1 ≤ 4 ∧ i.2.2.length + i.1 = 4 ∧ q = lettersF i.1 i.2.1 ++ i.2.2 ∧ a 0 = .int .i64 i.2.1 ∧ a 3 = .str i.2.2 ∧ σ' = σ) (fun i => i.1) (4, N, []) (Dr.now ⟨by dsimp only; omega, by simp, by simp, by simp [hq], ?_, ?_, rfl⟩) ?_
  ·simp (disch := first | assumption | omega) only [go_sem, ↓reduceIte]
  ·simp (disch := first | assumption | omega) only [go_sem, reduceCtorEq, Nat.reduceEqDiff, ↓reduceIte]
  rintro ⟨k, n, s⟩ a σ1 ⟨hn, hk, hs, hqe, h0, h3, rfl⟩
  dsimp only at hn hk hs hqe h0 h3
  by_cases hz : n = 0
  ·subst hz
   simp (disch := first | assumption | omega) only [go_sem, Nat.reduceEqDiff, Int.reduceLT, ↓reduceIte, h0, h3]
   refine retC_by (Drop.refl _) (.refl _) ⟨?_, rfl⟩
   have e : lettersF k 0 = [] := by cases k <;> rfl
   rw [hqe, e]; rfl
  ·obtain ⟨m, rfl⟩ : ∃ m, n = m + 1 := ⟨n - 1, by omega⟩
   have hb : (m : Int) < 456976 := by
    have := Nat.pow_le_pow_right (n := 26) (by omega) hk
    omega
   have hp : 0 < (m : Int) + 1 := by omega
   have e1 : (m : Int) + 1 - 1 = m := by omega
   have e2 : (m : Int).tmod 26 = ((m % 26 : Nat) : Int) := rfl
   have e3 : (m : Int).tdiv 26 = ((m / 26 : Nat) : Int) := rfl
   have e4 : (65 + ((m % 26 : Nat) : Int)).toNat = 65 + m % 26 := by omega
   have hk0 : k ≠ 0 := by rintro rfl; simp at hn
   obtain ⟨k, rfl⟩ : ∃ k', k = k' + 1 := ⟨k - 1, by omega⟩
   have hs1 : 1 + s.length ≤ 9223372036854775807 := by omega
   simp (disch := first | assumption | omega) only [go_sem, reduceCtorEq, Nat.reduceEqDiff, ↓reduceIte, Bool.true_and, h0, h3, hp, e1, e2, e3, e4]
   refine ⟨(k, m / 26, UInt8.ofNat (65 + m % 26) :: s), by dsimp only; omega, Dr.now ⟨?_, by dsimp only; omega, by simp; omega, ?_, ?_, ?_, rfl⟩⟩
   ·dsimp only
    rw [Nat.pow_succ] at hn
    omega
   ·dsimp only
    rw [hqe, lettersF, if_neg (by omega)]
    simp
   ·simp (disch := first | assumption | omega) only [go_sem, ↓reduceIte]
   ·simp (disch := first | assumption | omega) only [go_sem, reduceCtorEq, Nat.reduceEqDiff, ↓reduceIte]
def colF : Int → List UInt8 → Option Int
 | n, [] => some n
 | n, c :: cs => if letterP c.toNat = 0 ∨ 700 < n then none else colF (26 * n + letterP c.toNat) cs
def columnP (l : List UInt8) : Int × Bool :=
 match colF 0 l with
 | some n => if n < 1 ∨ 700 < n then (0, false) else (n - 1, true)
 | none => (0, false)
end Go.A
namespace Go.A
open Go.Proofs
def atP (l : List UInt8) (i : Nat) : Int := match l[i]? with
 | some c => c.toNat
 | none => 0
def runL (p : UInt8 → Bool) : List UInt8 → Nat
 | [] => 0
 | c :: cs => if p c then runL p cs + 1 else 0
def isL (c : UInt8) : Bool := decide (0 < letterP c.toNat)
def isD (c : UInt8) : Bool := decide (48 ≤ c.toNat ∧ c.toNat ≤ 57)
def numF : Int → List UInt8 → Int
 | n, [] => n
 | n, c :: cs => if isD c then numF (min (10 * n + (c.toNat - 48)) 3001) cs else n
def readQ (l : List UInt8) (i : Nat) (col : Int) (ar ac : Bool) : Ref × Int :=
 if numF 0 (l.drop i) < 1 ∨ 3000 < numF 0 (l.drop i) ∨ atP l i = 48 ∨ 0 < letterP (atP l (i + runL isD (l.drop i))) ∨ atP l (i + runL isD (l.drop i)) = 95 then (.zero, 0)
 else (⟨numF 0 (l.drop i) - 1, col, ar, ac⟩, (i + runL isD (l.drop i) : Nat))
def readR (l : List UInt8) (i : Nat) (ac : Bool) : Ref × Int :=
 if (columnP ((l.take (i + runL isL (l.drop i))).drop i)).2 = false then (.zero, 0)
 else if atP l (i + runL isL (l.drop i)) = 36 then readQ l (i + runL isL (l.drop i) + 1) (columnP ((l.take (i + runL isL (l.drop i))).drop i)).1 true ac
 else readQ l (i + runL isL (l.drop i)) (columnP ((l.take (i + runL isL (l.drop i))).drop i)).1 false ac
def readP (l : List UInt8) : Ref × Int := if atP l 0 = 36 then readR l 1 true else readR l 0 false
end Go.A
namespace Go.A
open Go.Proofs
/-! 61: (tabular/addr.Area).Rect -/
def c61_0 : ACode := .ops [
 ⟨some 1, none, .e (.box (.t 0)), []⟩,
 ⟨some 2, none, .e (.alloc [(.int .i64 0), (.int .i64 0), (.int .i64 0), (.int .i64 0)]), []⟩]
def c61_1 : ACode := .ops [
 ⟨some 3, none, .q (.ld (some 8) (.t 1)), []⟩,
 ⟨some 4, none, .e (.call 73 [(.t 3)]), []⟩,
 ⟨none, none, .e (.store 8 (.t 1) (.t 4)), []⟩]
def c61_2 : ACode := .ops [
 ⟨some 5, none, .q (.fa 0 (.t 1)), []⟩,
 ⟨some 6, none, .q (.fa 0 (.t 5)), []⟩,
 ⟨some 7, none, .q (.ld none (.t 6)), []⟩,
 ⟨some 8, none, .q (.fa 0 (.t 1)), []⟩,
 ⟨some 9, none, .q (.fa 1 (.t 8)), []⟩,
 ⟨some 10, none, .q (.ld none (.t 9)), []⟩,
 ⟨some 11, none, .q (.fa 4 (.t 1)), []⟩,
 ⟨some 12, none, .q (.fa 0 (.t 11)), []⟩,
 ⟨some 13, none, .q (.ld none (.t 12)), []⟩,
 ⟨some 14, none, .q (.fa 0 (.t 1)), []⟩,
 ⟨some 15, none, .q (.fa 0 (.t 14)), []⟩,
 ⟨some 16, none, .q (.ld none (.t 15)), []⟩,
 ⟨some 17, none, .q (.bin .sub (.t 13) (.t 16)), []⟩,
 ⟨some 18, none, .q (.bin .add (.t 17) (.v (.int .i64 1))), []⟩,
 ⟨some 19, none, .q (.fa 4 (.t 1)), []⟩,
 ⟨some 20, none, .q (.fa 1 (.t 19)), []⟩,
 ⟨some 21, none, .q (.ld none (.t 20)), []⟩,
 ⟨some 22, none, .q (.fa 0 (.t 1)), []⟩,
 ⟨some 23, none, .q (.fa 1 (.t 22)), []⟩,
 ⟨some 24, none, .q (.ld none (.t 23)), []⟩,
 ⟨some 25, none, .q (.bin .sub (.t 21) (.t 24)), []⟩,
 ⟨some 26, none, .q (.bin .add (.t 25) (.v (.int .i64 1))), []⟩,
 ⟨some 27, none, .q (.build [(.int .i64 0), (.int .i64 0), (.int .i64 0), (.int .i64 0)] [(0, 1, (.t 7)), (1, 1, (.t 10)), (2, 1, (.t 18)), (3, 1, (.t 26))]), []⟩,
 ⟨none, none, .e (.store 4 (.t 2) (.t 27)), []⟩]
def c61_3 : ACode := .seq c61_2 .ret
def c61_4 : ACode := .seq c61_1 c61_3
def c61_5 : ACode := .seq c61_0 c61_4
@[go_sem] def c61_0_wp := wp_of c61_0.eq_1
@[go_sem] def c61_1_wp := wp_of c61_1.eq_1
@[go_sem] def c61_2_wp := wp_of c61_2.eq_1
@[go_sem] def c61_3_wp := wp_of c61_3.eq_1
@[go_sem] def c61_4_wp := wp_of c61_4.eq_1
@[go_sem] def c61_5_wp := wp_of c61_5.eq_1
def c61 : AFn := ⟨28, [.c 2 (some 4)], c61_5⟩
theorem c61_ok : compF Tryz.prog Tryz.f61 = some c61 := by kernel_rfl
theorem a61 {args : List AV} {σ : ASt} {R : AV → ASt → Prop} (hl : args.length ≤ 28) (h : c61_5.wp Tryz.prog (RetQ [.c 2 (some 4)] R) (init args) σ) : ACalls Tryz.prog 61 args σ R := acalls_of Tryz.func61 c61_ok hl h
/-! 73: (tabular/addr.Area).Norm -/
def c73_0 : ACode := .ops [
 ⟨some 1, none, .e (.box (.t 0)), []⟩,
 ⟨some 2, none, .e (.alloc [(.int .i64 0), (.int .i64 0), (.bool false), (.bool false), (.int .i64 0), (.int .i64 0), (.bool false), (.bool false)]), []⟩]
def c73_1 : ACode := .ops [
 ⟨some 3, none, .q (.fa 0 (.t 1)), []⟩,
 ⟨some 4, none, .q (.fa 0 (.t 3)), []⟩,
 ⟨some 5, none, .q (.ld none (.t 4)), []⟩,
 ⟨some 6, none, .q (.fa 4 (.t 1)), []⟩,
 ⟨some 7, none, .q (.fa 0 (.t 6)), []⟩,
 ⟨some 8, none, .q (.ld none (.t 7)), []⟩,
 ⟨some 9, none, .q (.bin .gtr (.t 5) (.t 8)), []⟩]
def c73_2 : ACode := .ops [
 ⟨some 10, none, .q (.fa 4 (.t 1)), []⟩,
 ⟨some 11, none, .q (.fa 0 (.t 10)), []⟩,
 ⟨some 12, none, .q (.ld none (.t 11)), []⟩,
 ⟨some 13, none, .q (.fa 0 (.t 1)), []⟩,
 ⟨some 14, none, .q (.fa 0 (.t 13)), []⟩,
 ⟨some 15, none, .q (.ld none (.t 14)), []⟩,
 ⟨some 16, none, .q (.fa 0 (.t 1)), []⟩,
 ⟨some 17, none, .q (.fa 0 (.t 16)), []⟩,
 ⟨none, none, .e (.store 1 (.t 17) (.t 12)), []⟩,
 ⟨some 18, none, .q (.fa 4 (.t 1)), []⟩,
 ⟨some 19, none, .q (.fa 0 (.t 18)), []⟩,
 ⟨none, none, .e (.store 1 (.t 19) (.t 15)), []⟩]
def c73_3 : ACode := .ops [
 ⟨some 20, none, .q (.fa 4 (.t 1)), []⟩,
 ⟨some 21, none, .q (.fa 2 (.t 20)), []⟩,
 ⟨some 22, none, .q (.ld none (.t 21)), []⟩,
 ⟨some 23, none, .q (.fa 0 (.t 1)), []⟩,
 ⟨some 24, none, .q (.fa 2 (.t 23)), []⟩,
 ⟨some 25, none, .q (.ld none (.t 24)), []⟩,
 ⟨some 26, none, .q (.fa 0 (.t 1)), []⟩,
 ⟨some 27, none, .q (.fa 2 (.t 26)), []⟩,
 ⟨none, none, .e (.store 1 (.t 27) (.t 22)), []⟩,
 ⟨some 28, none, .q (.fa 4 (.t 1)), []⟩,
 ⟨some 29, none, .q (.fa 2 (.t 28)), []⟩,
 ⟨none, none, .e (.store 1 (.t 29) (.t 25)), []⟩]
def c73_4 : ACode := .seq c73_2 c73_3
def c73_5 : ACode := .cond (.t 9) c73_4 .skip
def c73_6 : ACode := .seq c73_1 c73_5
def c73_7 : ACode := .ops [
 ⟨some 30, none, .q (.fa 0 (.t 1)), []⟩,
 ⟨some 31, none, .q (.fa 1 (.t 30)), []⟩,
 ⟨some 32, none, .q (.ld none (.t 31)), []⟩,
 ⟨some 33, none, .q (.fa 4 (.t 1)), []⟩,
 ⟨some 34, none, .q (.fa 1 (.t 33)), []⟩,
 ⟨some 35, none, .q (.ld none (.t 34)), []⟩,
 ⟨some 36, none, .q (.bin .gtr (.t 32) (.t 35)), []⟩]
def c73_8 : ACode := .ops [
 ⟨some 37, none, .q (.fa 4 (.t 1)), []⟩,
 ⟨some 38, none, .q (.fa 1 (.t 37)), []⟩,
 ⟨some 39, none, .q (.ld none (.t 38)), []⟩,
 ⟨some 40, none, .q (.fa 0 (.t 1)), []⟩,
 ⟨some 41, none, .q (.fa 1 (.t 40)), []⟩,
 ⟨some 42, none, .q (.ld none (.t 41)), []⟩,
 ⟨some 43, none, .q (.fa 0 (.t 1)), []⟩,
 ⟨some 44, none, .q (.fa 1 (.t 43)), []⟩,
 ⟨none, none, .e (.store 1 (.t 44) (.t 39)), []⟩,
 ⟨some 45, none, .q (.fa 4 (.t 1)), []⟩,
 ⟨some 46, none, .q (.fa 1 (.t 45)), []⟩,
 ⟨none, none, .e (.store 1 (.t 46) (.t 42)), []⟩]
def c73_9 : ACode := .ops [
 ⟨some 47, none, .q (.fa 4 (.t 1)), []⟩,
 ⟨some 48, none, .q (.fa 3 (.t 47)), []⟩,
 ⟨some 49, none, .q (.ld none (.t 48)), []⟩,
 ⟨some 50, none, .q (.fa 0 (.t 1)), []⟩,
 ⟨some 51, none, .q (.fa 3 (.t 50)), []⟩,
 ⟨some 52, none, .q (.ld none (.t 51)), []⟩,
 ⟨some 53, none, .q (.fa 0 (.t 1)), []⟩,
 ⟨some 54, none, .q (.fa 3 (.t 53)), []⟩,
 ⟨none, none, .e (.store 1 (.t 54) (.t 49)), []⟩,
 ⟨some 55, none, .q (.fa 4 (.t 1)), []⟩,
 ⟨some 56, none, .q (.fa 3 (.t 55)), []⟩,
 ⟨none, none, .e (.store 1 (.t 56) (.t 52)), []⟩]
def c73_10 : ACode := .seq c73_8 c73_9
def c73_11 : ACode := .cond (.t 36) c73_10 .skip
def c73_12 : ACode := .seq c73_7 c73_11
def c73_13 : ACode := .ops [
 ⟨some 57, none, .q (.ld (some 8) (.t 1)), []⟩,
 ⟨none, none, .e (.store 8 (.t 2) (.t 57)), []⟩]
def c73_14 : ACode := .seq c73_13 .ret
def c73_15 : ACode := .seq c73_12 c73_14
def c73_16 : ACode := .seq c73_6 c73_15
def c73_17 : ACode := .seq c73_0 c73_16
@[go_sem] def c73_0_wp := wp_of c73_0.eq_1
@[go_sem] def c73_1_wp := wp_of c73_1.eq_1
@[go_sem] def c73_2_wp := wp_of c73_2.eq_1
@[go_sem] def c73_3_wp := wp_of c73_3.eq_1
@[go_sem] def c73_4_wp := wp_of c73_4.eq_1
@[go_sem] def c73_5_wp := wp_of c73_5.eq_1
@[go_sem] def c73_6_wp := wp_of c73_6.eq_1
@[go_sem] def c73_7_wp := wp_of c73_7.eq_1
@[go_sem] def c73_8_wp := wp_of c73_8.eq_1
@[go_sem] def c73_9_wp := wp_of c73_9.eq_1
@[go_sem] def c73_10_wp := wp_of c73_10.eq_1
@[go_sem] def c73_11_wp := wp_of c73_11.eq_1
@[go_sem] def c73_12_wp := wp_of c73_12.eq_1
@[go_sem] def c73_13_wp := wp_of c73_13.eq_1
@[go_sem] def c73_14_wp := wp_of c73_14.eq_1
@[go_sem] def c73_15_wp := wp_of c73_15.eq_1
@[go_sem] def c73_16_wp := wp_of c73_16.eq_1
@[go_sem] def c73_17_wp := wp_of c73_17.eq_1
def c73 : AFn := ⟨58, [.c 2 (some 8)], c73_17⟩
theorem c73_ok : compF Tryz.prog Tryz.f73 = some c73 := by kernel_rfl
theorem a73 {args : List AV} {σ : ASt} {R : AV → ASt → Prop} (hl : args.length ≤ 58) (h : c73_17.wp Tryz.prog (RetQ [.c 2 (some 8)] R) (init args) σ) : ACalls Tryz.prog 73 args σ R := acalls_of Tryz.func73 c73_ok hl h
end Go.A
namespace Go.A
open Go.Proofs
def parseP (l : List UInt8) : Ref × Bool := if (readP l).2 = 0 ∨ (readP l).2 < l.length then (.zero, false) else ((readP l).1, true)
def areaAV (a b : Ref) : AV := .agg [.int .i64 a.row, .int .i64 a.col, .bool a.absRow, .bool a.absCol, .int .i64 b.row, .int .i64 b.col, .bool b.absRow, .bool b.absCol]
def normR (a b : Ref) : Ref × Ref := if b.row < a.row then (⟨b.row, a.col, b.absRow, a.absCol⟩, ⟨a.row, b.col, a.absRow, b.absCol⟩) else (a, b)
def normC (a b : Ref) : Ref × Ref := if b.col < a.col then (⟨a.row, b.col, a.absRow, b.absCol⟩, ⟨b.row, a.col, b.absRow, a.absCol⟩) else (a, b)
def normP (a b : Ref) : Ref × Ref := normC (normR a b).1 (normR a b).2
theorem norm_ok (a b : Ref) : Pure Tryz.prog 73 [areaAV a b] (areaAV (normP a b).1 (normP a b).2) := by
 intro σ
 obtain ⟨q, hq⟩ : ∃ q, normP a b = q := ⟨_, rfl⟩
 rw [hq]
 unfold normP normC normR at hq
 obtain ⟨row, col, ar, ac⟩ := a
 obtain ⟨row2, col2, ar2, ac2⟩ := b
 dsimp only at hq
 refine a73 (by simp) ?_
 simp (disch := first | assumption | omega) only [go_sem, areaAV]
 refine boxC_by rfl fun b0 hb0 => ?_
 simp (disch := first | assumption | omega) only [go_sem]
 refine allocC_by fun b1 hb1 => ?_
 obtain ⟨n1, n2, hb3⟩ := set_none hb1
 by_cases h1 : row2 < row
 ·rw [if_pos h1] at hq
  dsimp only at hq
  by_cases h2 : col2 < col
  ·rw [if_pos h2] at hq
   subst hq
   simp (disch := first | assumption | omega) only [go_sem, Nat.reduceEqDiff, Nat.reduceAdd, Nat.reduceLeDiff, ↓reduceIte, Bool.true_and, h1, h2]
   exact retC_by (by repeat' (first | exact Drop.refl _ | with_reducible refine Drop.off ?_ (by assumption))) (.refl _) ⟨rfl, rfl⟩
  ·rw [if_neg h2] at hq
   subst hq
   simp (disch := first | assumption | omega) only [go_sem, Nat.reduceEqDiff, Nat.reduceAdd, Nat.reduceLeDiff, ↓reduceIte, Bool.true_and, h1, h2]
   exact retC_by (by repeat' (first | exact Drop.refl _ | with_reducible refine Drop.off ?_ (by assumption))) (.refl _) ⟨rfl, rfl⟩
 ·rw [if_neg h1] at hq
  dsimp only at hq
  by_cases h2 : col2 < col
  ·rw [if_pos h2] at hq
   subst hq
   simp (disch := first | assumption | omega) only [go_sem, Nat.reduceEqDiff, Nat.reduceAdd, Nat.reduceLeDiff, ↓reduceIte, Bool.true_and, h1, h2]
   exact retC_by (by repeat' (first | exact Drop.refl _ | with_reducible refine Drop.off ?_ (by assumption))) (.refl _) ⟨rfl, rfl⟩
  ·rw [if_neg h2] at hq
   subst hq
   simp (disch := first | assumption | omega) only [go_sem, Nat.reduceEqDiff, Nat.reduceAdd, Nat.reduceLeDiff, ↓reduceIte, Bool.true_and, h1, h2]
   exact retC_by (by repeat' (first | exact Drop.refl _ | with_reducible refine Drop.off ?_ (by assumption))) (.refl _) ⟨rfl, rfl⟩
def rectAV (row col rows cols : Int) : AV := .agg [.int .i64 row, .int .i64 col, .int .i64 rows, .int .i64 cols]
def Ref.near (r : Ref) : Prop := -4000000 ≤ r.row ∧ r.row ≤ 4000000 ∧ -4000000 ≤ r.col ∧ r.col ≤ 4000000
theorem norm_near {a b : Ref} (ha : a.near) (hb : b.near) : (normP a b).1.near ∧ (normP a b).2.near := by
 unfold normP normC normR Ref.near at *
 split <;> split <;> dsimp only at * <;> omega
theorem rect_ok (a b : Ref) (ha : a.near) (hb : b.near) : Pure Tryz.prog 61 [areaAV a b]
  (rectAV (normP a b).1.row (normP a b).1.col ((normP a b).2.row - (normP a b).1.row + 1) ((normP a b).2.col - (normP a b).1.col + 1)) := by
 intro σ
 obtain ⟨hn1, hn2⟩ := norm_near ha hb
 refine a61 (by simp) ?_
 simp (disch := first | assumption | omega) only [go_sem, areaAV]
 refine boxC_by rfl fun b0 hb0 => ?_
 simp (disch := first | assumption | omega) only [go_sem]
 refine allocC_by fun b1 hb1 => ?_
 obtain ⟨n1, n2, hb3⟩ := set_none hb1
 simp (disch := first | assumption | omega) only [go_sem, Nat.reduceEqDiff, Nat.reduceAdd, Nat.reduceLeDiff, ↓reduceIte]
 refine (norm_ok a b).use ?_
 obtain ⟨q, hq⟩ : ∃ q, normP a b = q := ⟨_, rfl⟩
 rw [hq] at hn1 hn2 ⊢
 obtain ⟨⟨row, col, ar, ac⟩, ⟨row2, col2, ar2, ac2⟩⟩ := q
 simp only [Ref.near] at hn1 hn2
 obtain ⟨m1, m2, m3, m4⟩ := hn1
 obtain ⟨m5, m6, m7, m8⟩ := hn2
 simp (disch := first | assumption | omega) only [go_sem, Nat.reduceEqDiff, Nat.reduceAdd, Nat.reduceLeDiff, ↓reduceIte, Bool.true_and, areaAV]
 exact retC_by (by repeat' (first | exact Drop.refl _ | with_reducible refine Drop.off ?_ (by assumption))) (.refl _) ⟨rfl, rfl⟩
end Go.A
namespace Go.A
open Go.Proofs
/-! 46: tabular/tabularlaw01.Cut -/
def c46_0 : ACode := .ops [
 ⟨some 4, none, .q (.mv (.v (.str []))), []⟩]
def c46_1 : ACode := .ops [
 ⟨some 5, none, .q (.mv (.t 0)), []⟩,
 ⟨some 6, none, .q (.lenS (.t 5)), []⟩,
 ⟨some 7, none, .q (.mv (.t 1)), []⟩,
 ⟨some 8, none, .q (.bin .gtr (.t 6) (.t 7)), []⟩]
def c46_2 : ACode := .ops [
 ⟨some 9, none, .q (.mv (.t 0)), []⟩,
 ⟨some 10, none, .q (.mv (.t 1)), []⟩,
 ⟨some 11, none, .q (.slto (true, 0) (.t 9) (.t 10)), []⟩,
 ⟨some 4, none, .q (.mv (.t 11)), []⟩]
def c46_3 : ACode := .seq c46_2 .ret
def c46_4 : ACode := .cond (.t 8) c46_3 .skip
def c46_5 : ACode := .seq c46_1 c46_4
def c46_6 : ACode := .ops [
 ⟨some 12, none, .q (.mv (.t 0)), []⟩,
 ⟨some 4, none, .q (.mv (.t 12)), []⟩]
def c46_7 : ACode := .seq c46_6 .ret
def c46_8 : ACode := .seq c46_5 c46_7
def c46_9 : ACode := .seq c46_0 c46_8
@[go_sem] def c46_0_wp := wp_of c46_0.eq_1
@[go_sem] def c46_1_wp := wp_of c46_1.eq_1
@[go_sem] def c46_2_wp := wp_of c46_2.eq_1
@[go_sem] def c46_3_wp := wp_of c46_3.eq_1
@[go_sem] def c46_4_wp := wp_of c46_4.eq_1
@[go_sem] def c46_5_wp := wp_of c46_5.eq_1
@[go_sem] def c46_6_wp := wp_of c46_6.eq_1
@[go_sem] def c46_7_wp := wp_of c46_7.eq_1
@[go_sem] def c46_8_wp := wp_of c46_8.eq_1
@[go_sem] def c46_9_wp := wp_of c46_9.eq_1
def c46 : AFn := ⟨13, [.t 4], c46_9⟩
theorem c46_ok : compF Tryz.prog Tryz.f46 = some c46 := by kernel_rfl
theorem a46 {args : List AV} {σ : ASt} {R : AV → ASt → Prop} (hl : args.length ≤ 13) (h : c46_9.wp Tryz.prog (RetQ [.t 4] R) (init args) σ) : ACalls Tryz.prog 46 args σ R := acalls_of Tryz.func46 c46_ok hl h
end Go.A
namespace Go.A
open Go.Proofs
def greatC (c : UInt8) : UInt8 := if 97 ≤ c.toNat ∧ c.toNat ≤ 122 then UInt8.ofNat (c.toNat - 32) else c
def greatP (l : List UInt8) : List UInt8 := l.map greatC
end Go.A
namespace Go.A
open Go.Proofs Go.Lib
def signsN (l : List UInt8) : Nat := runeCount ⟨⟨l⟩⟩
def wordB (c : UInt8) : Bool := decide ((48 ≤ c.toNat ∧ c.toNat ≤ 57) ∨ (97 ≤ c.toNat ∧ c.toNat ≤ 122) ∨ (65 ≤ c.toNat ∧ c.toNat ≤ 90) ∨ c.toNat = 95 ∨ c.toNat = 36 ∨ c.toNat = 46)
def digB (c : UInt8) : Bool := decide (48 ≤ c.toNat ∧ c.toNat ≤ 57)
def nameB (s : List UInt8) : Bool := decide (s ≠ []) && s.all (fun c => wordB c && decide (c.toNat ≠ 36)) && !((s.head?.map fun c => digB c || decide (c.toNat = 46)).getD false)
def cutDot : List UInt8 → List UInt8 × Option (List UInt8)
 | [] => ([], none)
 | c :: r => if c.toNat = 46 then ([], some r) else (c :: (cutDot r).1, (cutDot r).2)
def numB (s : List UInt8) : Bool :=
 match cutDot s with
 | (w, none) => decide (w ≠ []) && w.all digB
 | (w, some p) => decide (w ≠ []) && decide (p ≠ []) && decide (p.length ≤ 4) && (w ++ p).all digB
def refB (s : List UInt8) : Bool := (parseP s).2
inductive Step where
 | bad (k : Nat)
 | blank
 | tok (kind : Int) (text : List UInt8) (n : Nat)
 deriving DecidableEq
def wordsS (r : List UInt8) : Step :=
 let n := runL wordB r
 let w := r.take n
 if numB w then .tok 1 w n else if refB w then .tok 4 (greatP w) n else if nameB w then .tok 3 (greatP w) n else .bad 0
def quotedF : Nat → List UInt8 → Nat → List UInt8 → Step
 | 0, _, _, _ => .bad 0
 | k + 1, r, p, acc =>
   if r = [] then .bad 0
   else if decodeL r = (65533, 1) then .bad (1 + p)
   else if (decodeL r).1 ≠ 34 then quotedF k (r.drop (decodeL r).2) (p + (decodeL r).2) (acc ++ encodeRune ((decodeL r).1 : Int))
   else if r[1]? = some 34 then quotedF k (r.drop 2) (p + 2) (acc ++ [34])
   else .tok 2 acc (p + 2)
def errTexts : List (List UInt8) := [[35, 68, 73, 86, 47, 48, 33], [35, 78, 85, 77, 33], [35, 86, 65, 76, 85, 69, 33], [35, 82, 69, 70, 33], [35, 78, 47, 65], [35, 78, 65, 77, 69, 63], [35, 67, 89, 67, 76, 69, 33]]
def failS (r : List UInt8) : List (List UInt8) → Step
 | [] => .bad 0
 | e :: es => if e.length ≤ r.length ∧ greatP (r.take e.length) = e then .tok 5 e e.length else failS r es
def alikeP (c : Int) : List UInt8 :=
 if c = 8804 then [60, 61] else if c = 8805 then [62, 61] else if c = 8800 then [60, 62] else if c = 215 then [42] else if c = 247 then [47] else if c = 8722 then [45] else []
def twos : List (List UInt8) := [[60, 61], [62, 61], [60, 62]]
def twoS (r : List UInt8) : List (List UInt8) → Option (List UInt8)
 | [] => none
 | e :: es => if e.isPrefixOf r then some e else twoS r es
def opChars : List UInt8 := [43, 45, 42, 47, 94, 38, 61, 60, 62, 37, 40, 41, 58, 44]
def opS (c : Int) (n : Nat) (r : List UInt8) : Step :=
 if alikeP c ≠ [] then .tok 6 (alikeP c) n
 else match twoS r twos with
  | some e => .tok 6 e 2
  | none => if (r.headD 0) ∈ opChars then .tok 6 (r.take 1) 1 else .bad 0
def stepP (r : List UInt8) : Step :=
 let c := (decodeL r).1
 if decodeL r = (65533, 1) then .bad 0
 else if c = 32 ∨ c = 9 ∨ c = 10 then .blank
 else if c < 128 ∧ wordB (UInt8.ofNat c) = true then wordsS r
 else if c = 34 then quotedF (r.length) (r.drop 1) 0 []
 else if c = 35 then failS r errTexts
 else opS c (decodeL r).2 r
structure Tok where
 kind : Int
 text : List UInt8
 at' : Nat
 col : Nat
 deriving DecidableEq
def lexF : Nat → List UInt8 → Nat → Nat → List Tok → List Tok × Nat × Int
 | 0, _, a, _, acc => ([], a, 10)
 | k + 1, r, a, c, acc =>
   if r = [] then (acc ++ [⟨0, [], a, c⟩], 0, 0)
   else match stepP r with
    | .bad j => ([], a + j, 10)
    | .blank => lexF k (r.drop 1) (a + 1) (c + 1) acc
    | .tok kind t n => lexF k (r.drop n) (a + n) (c + signsN (r.take n)) (acc ++ [⟨kind, t, a, c⟩])
def lexP (s : List UInt8) : List Tok × Nat × Int := if 2000 < s.length then ([], 0, 11) else lexF (s.length + 1) s 0 0 []
def sgF : Nat → List UInt8 → Option Nat
 | 0, _ => none
 | k + 1, r => if r = [] then some 0 else if decodeL r = (65533, 1) then none else (sgF k (r.drop (decodeL r).2)).map (· + 1)
end Go.A
namespace Go.A
open Go.Proofs Go.Lib
def accTab : List Int := (List.range 16).flatMap fun i => [(accLo i : Int), (accHi i : Int)]
def U8 (σ : ASt) : Prop := σ 2 = some (.fix (firstTab.map (AV.int .u8))) ∧ σ 3 = some (.fix (accTab.map (AV.int .u8)))
theorem fix_ints {σ : ASt} {w : World} (hs : Sim σ w) {b : Nat} {k : IntKind} {zs : List Int} (h : σ b = some (.fix (zs.map (AV.int k)))) : ∀ j z, zs[j]? = some z → w.cell? ⟨b, j, none⟩ = some (.int k z) := by
 intro j z hj
 obtain ⟨vs, h4, h5⟩ := (hs b _ h).1.vals
 have h6 := reps_ints h4
 subst h6
 have := h5 j (Value.int k z) (by simp [hj])
 simpa using this
theorem ACalls.of_below {P : Program} {σ : ASt} {f : FuncId} {args : List AV} {r : AV} {u : Value} (h : ∀ w vs, Sim σ w → Reps σ w args vs → Calls P f ⟨vs⟩ w fun e w' => e = .returned u ∧ RowKit.Below w.heap.size w w') (hr : ∀ w, Rep σ w r u) : ACalls P f args σ fun v σ' => v = r ∧ σ' = σ :=
 ACalls.of_ext (fun w vs hs ha => (h w vs hs ha).mono fun e w' ⟨he, hb⟩ => ⟨he, Ext.of_below hb⟩) hr
end Go.A
namespace Go.A
open Go.Proofs
theorem lettersF_len : ∀ k n, (lettersF k n).length ≤ k
 | 0, n => Nat.le_refl _
 | k + 1, n => by
   unfold lettersF
   split
   ·exact Nat.zero_le _
   ·have := lettersF_len k ((n - 1) / 26)
    simp; omega
theorem letters_len (c : Int) : (lettersP c).length ≤ 4 := by
 unfold lettersP
 split
 ·exact Nat.zero_le _
 ·exact lettersF_len _ _
end Go.A
namespace Go.A
open Go.Proofs
def digF : Nat → Nat → List UInt8
 | 0, _ => []
 | k + 1, n => if n < 10 then [UInt8.ofNat (48 + n)] else digF k (n / 10) ++ [UInt8.ofNat (48 + n % 10)]
theorem digF_eq : ∀ (k n : Nat), n < 10 ^ (k + 1) → Lib.decDigits n = digF (k + 1) n
 | 0, n, h => by
   rw [Lib.decDigits, dif_pos (by omega)]
   unfold digF
   rw [if_pos (by omega)]
 | k + 1, n, h => by
   rw [Lib.decDigits]
   unfold digF
   by_cases h1 : n < 10
   ·rw [dif_pos h1, if_pos h1]
   ·rw [dif_neg h1, if_neg h1, digF_eq k (n / 10) (by rw [Nat.pow_succ] at h; omega)]
def numT (row : Int) : List UInt8 := digF 4 (row + 1).toNat
theorem itoa_num {row : Int} (h0 : 0 ≤ row) (h1 : row < 3000) : Lib.itoa (row + 1) = numT row := by
 unfold Lib.itoa numT
 rw [if_neg (by omega), digF_eq 3 _ (by omega)]
theorem num_all : (List.range 3000).all (fun i => decide (numF 0 (numT i) = (i : Int) + 1) && (numT i).all isD && decide (1 ≤ (numT i).length) && decide ((numT i).length ≤ 4) && decide (atP (numT i) 0 ≠ 48)) = true := by decide +kernel
theorem num_facts {row : Int} (h0 : 0 ≤ row) (h1 : row < 3000) : numF 0 (numT row) = row + 1 ∧ (∀ c ∈ numT row, isD c = true) ∧ 1 ≤ (numT row).length ∧ (numT row).length ≤ 4 ∧ atP (numT row) 0 ≠ 48 := by
 obtain ⟨i, rfl⟩ : ∃ i : Nat, row = i := ⟨row.toNat, by omega⟩
 have := List.all_eq_true.1 num_all i (List.mem_range.2 (by omega))
 simpa [and_assoc] using this
theorem let_all : (List.range 700).all (fun i => (lettersP i).all isL && decide (1 ≤ (lettersP i).length)) = true := by decide +kernel
theorem let_facts {col : Int} (h0 : 0 ≤ col) (h1 : col < 700) : (∀ c ∈ lettersP col, isL c = true) ∧ 1 ≤ (lettersP col).length := by
 obtain ⟨i, rfl⟩ : ∃ i : Nat, col = i := ⟨col.toNat, by omega⟩
 have := List.all_eq_true.1 let_all i (List.mem_range.2 (by omega))
 simpa using this
def dolP (b : Bool) : List UInt8 := if b then [36] else []
def textP (r : Ref) : List UInt8 := dolP r.absCol ++ lettersP r.col ++ dolP r.absRow ++ numT r.row
theorem text_len {r : Ref} (hg : r.good = true) : 2 ≤ (textP r).length ∧ (textP r).length ≤ 10 := by
 simp only [Ref.good, decide_eq_true_eq] at hg
 obtain ⟨g1, g2, g3, g4⟩ := hg
 obtain ⟨l1, l2⟩ := let_facts g3 g4
 obtain ⟨n1, n2, n3, n4, n5⟩ := num_facts g1 g2
 have := letters_len r.col
 unfold textP dolP
 simp only [List.length_append]
 constructor
 ·omega
 ·split <;> split <;> simp <;> omega
end Go.A
namespace Go.A
inductive Nd where
 | mk (op n : Int) (s : List UInt8) (a b : Ref) (kids : List Nd)
instance : Inhabited Nd := ⟨.mk 0 0 [] .zero .zero []⟩
def Nd.op : Nd → Int | .mk op _ _ _ _ _ => op
mutual
def Nd.av : Nd → AV
 | .mk op n s a b kids => .agg [.int .i64 op, .int .i64 n, .str s, .int .i64 a.row, .int .i64 a.col, .bool a.absRow, .bool a.absCol, .int .i64 b.row, .int .i64 b.col, .bool b.absRow, .bool b.absCol, .sl .shr (Nd.avs kids)]
def Nd.avs : List Nd → List AV
 | [] => []
 | x :: xs => x.av :: Nd.avs xs
end
theorem Nd.avs_map : ∀ l : List Nd, Nd.avs l = l.map Nd.av
 | [] => rfl
 | x :: xs => by rw [Nd.avs, Nd.avs_map xs]; rfl
theorem Nd.av_eq (op n : Int) (s : List UInt8) (a b : Ref) (kids : List Nd) : (Nd.mk op n s a b kids).av = .agg [.int .i64 op, .int .i64 n, .str s, .int .i64 a.row, .int .i64 a.col, .bool a.absRow, .bool a.absCol, .int .i64 b.row, .int .i64 b.col, .bool b.absRow, .bool b.absCol, .sl .shr (kids.map Nd.av)] := by
 rw [Nd.av, Nd.avs_map]
def Nd.cs (op n : Int) (s : List UInt8) (a b : Ref) (L : List AV) : List AV := [.int .i64 op, .int .i64 n, .str s, .int .i64 a.row, .int .i64 a.col, .bool a.absRow, .bool a.absCol, .int .i64 b.row, .int .i64 b.col, .bool b.absRow, .bool b.absCol, .sl .shr L]
theorem Nd.av_cs (op n : Int) (s : List UInt8) (a b : Ref) (kids : List Nd) : (Nd.mk op n s a b kids).av = .agg (Nd.cs op n s a b (kids.map Nd.av)) := Nd.av_eq ..
section
variable {op n : Int} {s : List UInt8} {a b : Ref} {L : List AV}
@[go_sem] theorem cs_0 : (Nd.cs op n s a b L)[0]? = some (.int .i64 op) := id rfl
@[go_sem] theorem cs_1 : (Nd.cs op n s a b L)[1]? = some (.int .i64 n) := id rfl
@[go_sem] theorem cs_2 : (Nd.cs op n s a b L)[2]? = some (.str s) := id rfl
@[go_sem] theorem cs_11 : (Nd.cs op n s a b L)[11]? = some (.sl .shr L) := id rfl
@[go_sem] theorem cs_len : (Nd.cs op n s a b L).length = 12 := id rfl
@[go_sem] theorem cs_leaves : leaves (Nd.cs op n s a b L) = true := id rfl
@[go_sem] theorem cs_take : (Nd.cs op n s a b L).take 12 = Nd.cs op n s a b L := id rfl
@[go_sem] theorem cs_ta : ((Nd.cs op n s a b L).drop 3).take 4 = [.int .i64 a.row, .int .i64 a.col, .bool a.absRow, .bool a.absCol] := id rfl
@[go_sem] theorem cs_tb : ((Nd.cs op n s a b L).drop 7).take 4 = [.int .i64 b.row, .int .i64 b.col, .bool b.absRow, .bool b.absCol] := id rfl
end
theorem Nd.av_len (n : Nd) : n.av.cells.length = 12 := by cases n; rfl
theorem Nd.get {l : List Nd} {i : Nat} {x : Nd} (h : l[i]? = some x) : (l.map Nd.av)[i]? = some x.av := by rw [List.getElem?_map, h]; rfl
mutual
theorem Nd.deep : ∀ n : Nd, Go.A.deep n.av = n.av
 | .mk op n s a b kids => by
   rw [Nd.av, Go.A.deep]
   simp only [Go.A.deeps, Go.A.deep, Nd.deeps kids]
theorem Nd.deeps : ∀ l : List Nd, Go.A.deeps (Nd.avs l) = Nd.avs l
 | [] => rfl
 | x :: xs => by rw [Nd.avs, Go.A.deeps, Nd.deep x, Nd.deeps xs]
end
mutual
def Nd.size : Nd → Nat
 | .mk _ _ _ _ _ kids => 1 + Nd.sizes kids
def Nd.sizes : List Nd → Nat
 | [] => 0
 | x :: xs => x.size + Nd.sizes xs
end
theorem Nd.size_kid : ∀ {l : List Nd} {x : Nd}, x ∈ l → x.size ≤ Nd.sizes l
 | [], _, h => by cases h
 | y :: l, x, h => by
   rw [Nd.sizes]
   rcases List.mem_cons.1 h with rfl | h
   ·omega
   ·have := Nd.size_kid h; omega
theorem Nd.size_pos (n : Nd) : 0 < n.size := by cases n; rw [Nd.size]; omega
mutual
def Nd.depth : Nd → Nat
 | .mk _ _ _ _ _ kids => Nd.depths kids + 1
def Nd.depths : List Nd → Nat
 | [] => 0
 | x :: xs => max x.depth (Nd.depths xs)
end
theorem Nd.depth_le_size : ∀ n : Nd, n.depth ≤ n.size := by
 intro n
 induction h : n.size using Nat.strongRecOn generalizing n with
 | _ k ih =>
   obtain ⟨op, m, s, a, b, kids⟩ := n
   subst h
   rw [Nd.size] at ih ⊢
   rw [Nd.depth]
   have key : ∀ l : List Nd, (∀ x ∈ l, x.depth ≤ x.size) → Nd.depths l ≤ Nd.sizes l := by
    intro l
    induction l with
    | nil => intro _; exact Nat.le_refl _
    | cons x l ihl =>
      intro hx
      rw [Nd.depths, Nd.sizes]
      have h1 := hx x (by simp)
      have h2 := ihl fun y hy => hx y (by simp [hy])
      omega
   have := key kids fun x hx => ih _ (by have := Nd.size_kid hx; omega) x rfl
   omega
def levelP (op : Int) : Int :=
 if op = 7 ∨ op = 8 then 6 else if op = 9 then 7 else if op < 10 ∨ 22 ≤ op then 8
 else if op ≤ 11 then 3 else if op ≤ 13 then 4 else if op = 14 then 5 else if op = 15 then 2 else 1
def signL : List (List UInt8) := [[43], [45], [42], [47], [94], [38], [61], [60, 62], [60], [60, 61], [62], [62, 61]]
def errL : List (List UInt8) := [[35, 68, 73, 86, 47, 48, 33], [35, 78, 85, 77, 33], [35, 86, 65, 76, 85, 69, 33], [35, 82, 69, 70, 33], [35, 78, 47, 65], [35, 78, 65, 77, 69, 63], [35, 67, 89, 67, 76, 69, 33]]
def failT (op n : Int) : List UInt8 := if op ≠ 4 ∨ n.tdiv 10000 < 1 ∨ 7 < n.tdiv 10000 then [] else errL.getD (n.tdiv 10000 - 1).toNat []
def truthP (b : Bool) : List UInt8 := if b = true then [84, 82, 85, 69] else [70, 65, 76, 83, 69]
def quotT (s : List UInt8) : List UInt8 := 34 :: (s.flatMap fun c => if c = 34 then [34, 34] else [c]) ++ [34]
def insT (least : Int) (op : Int) (t : List UInt8) : List UInt8 := if least ≤ levelP op then t else 40 :: t ++ [41]
def joinC : List (Int × List UInt8) → List UInt8
 | [] => []
 | p :: r => p.2 ++ r.flatMap fun q => 44 :: q.2
def spellK (op n : Int) (s : List UInt8) (a b : Ref) (ks : List (Int × List UInt8)) : List UInt8 :=
 if op = 1 then textD n else if op = 2 then quotT s else if op = 3 then truthP (!decide (n = 0)) else if op = 4 then failT op n else if op = 5 then textP a else if op = 6 then textP a ++ [58] ++ textP b
 else if op = 7 ∨ op = 8 then (if op = 7 then 45 else 43) :: insT 6 (ks.getD 0 (0, [])).1 (ks.getD 0 (0, [])).2
 else if op = 9 then insT 7 (ks.getD 0 (0, [])).1 (ks.getD 0 (0, [])).2 ++ [37]
 else if op = 22 then s ++ 40 :: joinC ks ++ [41]
 else if op = 23 then []
 else insT (levelP op) (ks.getD 0 (0, [])).1 (ks.getD 0 (0, [])).2 ++ signL.getD (op - 10).toNat [] ++ insT (levelP op + 1) (ks.getD 1 (0, [])).1 (ks.getD 1 (0, [])).2
mutual
def Nd.spell : Nd → List UInt8
 | .mk op n s a b kids => spellK op n s a b (Nd.spells kids)
def Nd.spells : List Nd → List (Int × List UInt8)
 | [] => []
 | x :: xs => (x.op, x.spell) :: Nd.spells xs
end
theorem Nd.spells_map : ∀ l : List Nd, Nd.spells l = l.map fun x => (x.op, x.spell)
 | [] => rfl
 | x :: xs => by rw [Nd.spells, Nd.spells_map xs]; rfl
def nodeOk (op n : Int) (s : List UInt8) (a b : Ref) (k : Nat) : Prop :=
 (1 ≤ op ∧ op ≤ 23) ∧ (op = 1 → n.natAbs ≤ 999999999999999999) ∧ (op = 2 → s.length ≤ 100000) ∧ (op = 4 → 1 ≤ n.tdiv 10000 ∧ n.tdiv 10000 ≤ 7) ∧ (op = 22 → s ≠ []) ∧ (op = 5 ∨ op = 6 → a.good = true) ∧ (op = 6 → b.good = true) ∧ (op = 7 ∨ op = 8 ∨ op = 9 → 1 ≤ k) ∧ (10 ≤ op ∧ op ≤ 21 → 2 ≤ k) ∧ k ≤ 1000000
mutual
def Nd.ok : Nd → Prop
 | .mk op n s a b kids => nodeOk op n s a b kids.length ∧ Nd.oks kids
def Nd.oks : List Nd → Prop
 | [] => True
 | x :: xs => x.ok ∧ Nd.oks xs
end
theorem Nd.oks_mem : ∀ {l : List Nd}, Nd.oks l ↔ ∀ x ∈ l, x.ok
 | [] => by simp [Nd.oks]
 | y :: l => by rw [Nd.oks, Nd.oks_mem (l := l)]; simp
end Go.A
namespace Go.A
open Go.Proofs Go.Shelf Go.RowKit
section
variable {P : Program} {ρ : Ren}
set_option maxHeartbeats 2000000 in
theorem bstr_used (L : Lays.n169 P ρ) (X : Builder.Extra P ρ) (b g cap size : Nat) (l : List UInt8) (w : World) (h0 : l ≠ []) (hc1 : w.cell? ⟨b, 1, none⟩ = some (.slice (some ⟨g, 0, none⟩) l.length cap)) (hcap : cap ≠ 0)
  (hsh : w.shape? g = some (ρ.t 5, size)) (hle : l.length ≤ size) (h63 : l.length ≤ 9223372036854775807) (hcell : ∀ j x, l[j]? = some x → w.cell? ⟨g, j, none⟩ = some (.int .u8 x.toNat)) :
  Calls P (ρ.f 169) #[.pointer (some ⟨b, 0, none⟩)] w fun e w' => e = .returned (.string ⟨l.toArray⟩) ∧ w' = w.drew.freeze ⟨g, 0, none⟩ l.length := by
 have c1 : w.drew.cell? ⟨b, 1, none⟩ = some (.slice (some ⟨g, 0, none⟩) l.length cap) := hc1
 have hSD : (Builtin.unsafeSliceData_ #[(ρ.t 37)] (ρ.t 127) #[.slice (some ⟨g, 0, none⟩) l.length cap]).run P w.drew = .ok (.pointer (some ⟨g, 0, none⟩)) w.drew :=
  Lib.run_unsafeSliceData_row _ _ _ _ _ _ hcap
 have hUS : (Builtin.unsafeString_ #[(ρ.t 127), (ρ.t 3)] (ρ.t 9) #[.pointer (some ⟨g, 0, none⟩), .int .i64 l.length]).run P w.drew = .ok (.string ⟨l.toArray⟩) (w.drew.freeze ⟨g, 0, none⟩ l.length) := by
  refine Lib.run_unsafeString_row w.drew (ρ.t 127) (ρ.t 3) (ρ.t 9) (ρ.t 5) L.t127 X.cellsByte g size hsh l h0 hle h63 ?_
  intro j x hx
  rw [addr_add', Nat.zero_add]
  exact hcell j x hx
 have mixed := L.mixed
 have t72 := L.t72; have a72 := L.a72; have z72 := L.z72; have v72 := L.v72; have u72 := run_underlying L.t72
 have t70 := L.t70; have a70 := L.a70; have z70 := L.z70; have v70 := L.v70; have u70 := run_underlying L.t70
 have t37 := L.t37; have a37 := L.a37; have z37 := L.z37; have v37 := L.v37; have u37 := run_underlying L.t37
 have t127 := L.t127; have a127 := L.a127; have z127 := L.z127; have v127 := L.v127; have u127 := run_underlying L.t127
 have t3 := L.t3; have a3 := L.a3; have z3 := L.z3; have v3 := L.v3; have u3 := run_underlying L.t3
 have t9 := L.t9; have a9 := L.a9; have z9 := L.z9; have v9 := L.v9; have u9 := run_underlying L.t9
 have t5 := X.t5; have a5 := X.a5; have z5 := X.z5; have v5 := X.v5; have u5 := run_underlying X.t5
 go_enter L.f169, Body.n169_ntmps ρ
 go_wp2
 go_region_o
 all_goals (go_wp2; go_ret; exact ⟨rfl, rfl⟩)
set_option maxHeartbeats 2000000 in
theorem bstr_nil (L : Lays.n169 P ρ) (X : Builder.Extra P ρ) (b : Nat) (w : World) (hc1 : w.cell? ⟨b, 1, none⟩ = some (.slice none 0 0)) :
  Calls P (ρ.f 169) #[.pointer (some ⟨b, 0, none⟩)] w fun e w' => e = .returned (.string ⟨#[]⟩) ∧ w' = w.drew := by
 have hUS := Any.unsafeString_none L X
 have c1 : w.drew.cell? ⟨b, 1, none⟩ = some (.slice none 0 0) := hc1
 have hSD : (Builtin.unsafeSliceData_ #[(ρ.t 37)] (ρ.t 127) #[.slice none 0 0]).run P w.drew = .ok (.pointer none) w.drew := rfl
 have mixed := L.mixed
 have t72 := L.t72; have a72 := L.a72; have z72 := L.z72; have v72 := L.v72; have u72 := run_underlying L.t72
 have t70 := L.t70; have a70 := L.a70; have z70 := L.z70; have v70 := L.v70; have u70 := run_underlying L.t70
 have t37 := L.t37; have a37 := L.a37; have z37 := L.z37; have v37 := L.v37; have u37 := run_underlying L.t37
 have t127 := L.t127; have a127 := L.a127; have z127 := L.z127; have v127 := L.v127; have u127 := run_underlying L.t127
 have t3 := L.t3; have a3 := L.a3; have z3 := L.z3; have v3 := L.v3; have u3 := run_underlying L.t3
 have t9 := L.t9; have a9 := L.a9; have z9 := L.z9; have v9 := L.v9; have u9 := run_underlying L.t9
 have t5 := X.t5; have a5 := X.a5; have z5 := X.z5; have v5 := X.v5; have u5 := run_underlying X.t5
 go_enter L.f169, Body.n169_ntmps ρ
 go_wp2
 go_region_o
 all_goals (go_wp2; go_ret; exact ⟨rfl, rfl⟩)
end
theorem size_bld : (Tryz.prog.info? 62).map (·.size) = some 2 := by kernel_rfl
theorem lies_bld : liesAt Tryz.prog Tryz.prog.depth 62 (2 / Tryz.prog.cellsOf 62) 0 62 1 = true := by kernel_rfl
set_option maxHeartbeats 1000000 in
set_option maxRecDepth 1000000 in
theorem cc_used (b : Nat) (w : World) (h0 : w.cell? ⟨b, 0, none⟩ = some (.pointer (some ⟨b, 0, none⟩))) :
  Calls Tryz.prog 64 #[.pointer (some ⟨b, 0, none⟩)] w fun e w' => e = .returned (.tuple #[]) ∧ w' = w := by
 obtain ⟨j, hj, _⟩ := Option.map_eq_some_iff.1 size_bld
 go_enter Tryz.func64, Tryz.ntmps64
 go_wp2
 rw [Lib.run_neq_ptr_same w _ Tryz.underlying60 hj]
 go_wp2
 go_end0
 exact ⟨rfl, rfl⟩
set_option maxHeartbeats 1000000 in
set_option maxRecDepth 1000000 in
theorem cc_fresh (b : Nat) (w : World) (h0 : w.cell? ⟨b, 0, none⟩ = some (.pointer none)) (hsh : w.shape? b = some (62, 2)) (hfz : w.frozen? ⟨b, 0, none⟩ = false) :
  Calls Tryz.prog 64 #[.pointer (some ⟨b, 0, none⟩)] w fun e w' => e = .returned (.tuple #[]) ∧ w' = w.setCell ⟨b, 0, none⟩ (.pointer (some ⟨b, 0, none⟩)) := by
 obtain ⟨j, hj, hjs⟩ := Option.map_eq_some_iff.1 size_bld
 go_enter Tryz.func64, Tryz.ntmps64
 go_wp2
 rw [Lib.run_to_unsafe w ⟨b, 0, none⟩ Tryz.underlying60 Tryz.underlying111 hj (by rw [hjs]; decide) hsh (Nat.zero_lt_succ 1)]
 simp only [Result.andThen]
 rw [Oper.upon_value]
 go_wp2
 rw [run_callFunc_extern Tryz.func76 (by kernel_rfl) (by kernel_rfl) (by kernel_rfl) (e := Extern.AbiNoEscape.same) (by kernel_rfl)]
 rw [Lib.run_noEscape]
 simp only [Result.andThen]
 rw [Oper.upon_value]
 go_wp2
 rw [Lib.run_from_unsafe w ⟨b, 0, none⟩ Tryz.underlying111 Tryz.underlying60 hj hsh lies_bld]
 simp only [Result.andThen]
 rw [Oper.upon_value]
 go_wp2
 go_end0
 exact ⟨rfl, rfl⟩
end Go.A
namespace Go.A
open Go.Proofs
theorem copyCheck_typ {σ : ASt} {b : Nat} (h : σ b = some (.typ 62 [.pointer none, .slice none 0 0])) :
  ACalls Tryz.prog 64 [.ptr b 0] σ fun v σ' => v = .tuple [] ∧ σ' = σ.set b (some (.obj [.ptr b 0, .sl .full []])) := by
 intro w vs hs ha
 cases ha with
 | cons h1 h2 =>
 cases h1; cases h2
 have hb : w.heap[b]? = some (.cells ⟨[.pointer none, .slice none 0 0]⟩ 62 (0, 0)) := hs b _ h
 refine (cc_fresh b w (by simp [World.cell?, hb]) (by simp [World.shape?, hb]) (by simp [World.frozen?, hb])).mono ?_
 rintro e w' ⟨rfl, rfl⟩
 have hw := Wrote.setCell (o := 0) hb (.pointer (some ⟨b, 0, none⟩))
 have hle : Le σ w (σ.set b (some (.obj [.ptr b 0, .sl .full []]))) (w.setCell ⟨b, 0, none⟩ (.pointer (some ⟨b, 0, none⟩))) := by
  refine ⟨hw.os, hw.tape, hw.output, by rw [hw.size]; exact Nat.le_refl _, fun x hx hn => ?_, fun x cs hx hn => ?_, fun x f hx hn => ?_⟩
  all_goals have hne : x ≠ b := by rintro rfl; rw [h] at hn; cases hn
  ·rw [ASt.set_ne hne]; exact ⟨hn, hw.other x hne⟩
  ·rw [ASt.set_ne hne]; exact ⟨.inr hn, hw.other x hne⟩
  ·rw [ASt.set_ne hne]; exact ⟨.inr ⟨f, Nat.le_refl _, hn⟩, shape_of_heap_eq (hw.other x hne), fun o _ => cell_of_heap_eq (hw.other x hne) o⟩
 have hro : RoleOk (σ.set b (some (.obj [.ptr b 0, .sl .full []]))) (w.setCell ⟨b, 0, none⟩ (.pointer (some ⟨b, 0, none⟩))) b (.obj [.ptr b 0, .sl .full []]) := by
  refine ⟨_, _, _, hw.new, ?_, fun o ho => ?_⟩
  ·exact .cons (.ptr _ _) (.cons .slN .nil)
  ·rw [hw.frozen]
   simp only [World.frozen?, hb]
   simp
 exact ⟨_, _, _, rfl, ⟨rfl, rfl⟩, hle, hw.sim hs hle hro, .tuple .nil⟩
theorem copyCheck_used {σ : ASt} {b : Nat} {x : AV} (h : σ b = some (.obj [.ptr b 0, x])) : ACalls Tryz.prog 64 [.ptr b 0] σ fun v σ' => v = .tuple [] ∧ σ' = σ := by
 intro w vs hs ha
 cases ha with
 | cons h1 h2 =>
 cases h1; cases h2
 obtain ⟨us, h3, h4, _⟩ := hs.objCell h
 cases h3 with
 | cons h5 h6 =>
 cases h5
 refine (cc_used b w (h4 0 _ rfl)).mono ?_
 rintro e w' ⟨rfl, rfl⟩
 exact ⟨_, _, _, rfl, ⟨rfl, rfl⟩, Le.refl _ _, hs, .tuple .nil⟩
theorem bstring_typ {σ : ASt} {b : Nat} (h : σ b = some (.typ 62 [.pointer none, .slice none 0 0])) : ACalls Tryz.prog 26 [.ptr b 0] σ fun v σ' => v = .str [] ∧ σ' = σ := by
 intro w vs hs ha
 cases ha with
 | cons h1 h2 =>
 cases h1; cases h2
 have hb : w.heap[b]? = some (.cells ⟨[.pointer none, .slice none 0 0]⟩ 62 (0, 0)) := hs b _ h
 refine (bstr_nil Tryz.lays169 Tryz.Builder_Extra_169 b w (by simp [World.cell?, hb])).mono ?_
 rintro e w' ⟨rfl, rfl⟩
 have hx : Ext w w.drew := Ext.drew (Ext.refl w)
 exact ⟨_, _, _, rfl, ⟨rfl, rfl⟩, ext_le hx, hs.ext hx, .str []⟩
theorem row_bytes {σ : ASt} {w : World} {b : Nat} : ∀ {l : List UInt8} {o : Nat}, Row σ w b o 1 (bytesAV l) → ∀ j x, l[j]? = some x → w.cell? ⟨b, o + j, none⟩ = some (.int .u8 x.toNat)
 | [], o, h, j, x, hj => by simp at hj
 | c :: l, o, h, j, x, hj => by
   cases h with
   | cons h1 h2 h3 =>
   cases j with
   | zero =>
     simp only [List.getElem?_cons_zero, Option.some.injEq] at hj
     subst hj
     cases h2 with
     | cons g1 g2 g3 g4 =>
     cases g3
     exact g2
   | succ j =>
     have := row_bytes (l := l) h3 j x (by simpa using hj)
     rw [show o + (j + 1) = o + 1 + j by omega]
     exact this
theorem bstring_used {σ : ASt} {b g : Nat} {p : AV} {l : List UInt8} (h0 : l ≠ []) (hl : l.length ≤ 9223372036854775807) (h : σ b = some (.obj [p, .sl (.tok g 1 5) (bytesAV l)])) (hg : σ g = some (.tok l.length)) :
  ACalls Tryz.prog 26 [.ptr b 0] σ fun v σ' => v = .str l ∧ σ' = σ := by
 intro w vs hs ha
 cases ha with
 | cons h1 h2 =>
 cases h1; cases h2
 obtain ⟨us, h3, h4, h9⟩ := hs.objCell h
 cases h3 with
 | cons h5 h6 =>
 cases h6 with
 | cons h7 h8 =>
 cases h8
 obtain ⟨c, T, fr, k1, k2, k3⟩ := hs g _ hg
 have hlen : (bytesAV l).length = l.length := by simp [bytesAV]
 generalize hbl : bytesAV l = bl at h7
 cases h7 with
 | sl r1 r2 r3 r4 r5 =>
 subst hbl
 obtain ⟨rfl, rfl, rfl, r6, r7⟩ := r4
 have hpos : 0 < l.length := List.length_pos_iff.2 h0
 subst r2
 rw [hlen] at r3
 have hc1 := h4 1 _ rfl
 rw [hlen] at hc1
 refine (bstr_used Tryz.lays169 Tryz.Builder_Extra_169 b g _ _ l w h0 hc1 (by omega) r6 (by omega) hl ?_).mono ?_
 ·intro j x hj
  have := row_bytes r1 j x hj
  simpa using this
 rintro e w' ⟨rfl, rfl⟩
 have hother : ∀ x, x ≠ g → (w.drew.freeze ⟨g, 0, none⟩ l.length).heap[x]? = w.heap[x]? := by
  intro x hx
  simp only [World.freeze]
  rw [if_neg (by omega)]
  simp only [Array.getElem?_modify]
  rw [if_neg (Ne.symm hx)]
  rfl
 obtain ⟨lo, hi⟩ := fr
 have hk1 : w.drew.heap[g]? = some (.cells c T (lo, hi)) := k1
 obtain ⟨fr', hfr, hnew⟩ : ∃ fr' : Nat × Nat, fr'.2 ≤ l.length ∧ (w.drew.freeze ⟨g, 0, none⟩ l.length).heap[g]? = some (.cells c T fr') := by
  refine ⟨if lo == hi then (0, 0 + l.length) else (min lo 0, max hi (0 + l.length)), ?_, ?_⟩
  ·dsimp only at k3
   split <;> dsimp only <;> omega
  ·simp only [World.freeze]
   rw [if_neg (by omega)]
   simp only [Array.getElem?_modify, if_true, hk1, Option.map_some]
 have hshape : (w.drew.freeze ⟨g, 0, none⟩ l.length).shape? g = w.shape? g := by simp only [World.shape?, hnew, k1]
 have hcells : ∀ o, (w.drew.freeze ⟨g, 0, none⟩ l.length).cell? ⟨g, o, none⟩ = w.cell? ⟨g, o, none⟩ := fun o => by simp only [World.cell?, hnew, k1]
 have hle : Le σ w σ (w.drew.freeze ⟨g, 0, none⟩ l.length) := by
  refine ⟨?_, ?_, ?_, ?_, fun x hx hn => ?_, fun x cs hx hn => ?_, fun x f hx hn => ?_⟩
  ·simp only [World.freeze]; split <;> rfl
  ·simp only [World.freeze]; split <;> rfl
  ·simp only [World.freeze]; split <;> rfl
  ·simp only [World.freeze]; split
   ·exact Nat.le_refl _
   ·rw [Array.size_modify]; exact Nat.le_refl _
  ·have hne : x ≠ g := by rintro rfl; rw [hg] at hn; cases hn
   exact ⟨hn, hother x hne⟩
  ·have hne : x ≠ g := by rintro rfl; rw [hg] at hn; cases hn
   exact ⟨.inr hn, hother x hne⟩
  ·by_cases hne : x = g
   ·subst hne
    exact ⟨.inr ⟨f, Nat.le_refl _, hn⟩, hshape, fun o _ => hcells o⟩
   ·exact ⟨.inr ⟨f, Nat.le_refl _, hn⟩, shape_of_heap_eq (hother x hne), fun o _ => cell_of_heap_eq (hother x hne) o⟩
 have hsim : Sim σ (w.drew.freeze ⟨g, 0, none⟩ l.length) := by
  intro x q hx
  by_cases hne : x = g
  ·subst hne
   rw [hg] at hx
   injection hx with hx
   subst hx
   exact ⟨c, T, fr', hnew, k2, hfr⟩
  ·exact (hs x q hx).keep hle (hother x hne)
 exact ⟨_, _, _, rfl, ⟨rfl, rfl⟩, hle, hsim, .str l⟩
end Go.A
namespace Go.A
open Go.Proofs
/-! 50: tabular/token.Quote -/
def c50_0 : ACode := .ops [
 ⟨some 2, none, .q (.mv (.v (.str []))), []⟩]
def c50_1 : ACode := .ops [
 ⟨some 3, none, .q (.mv (.t 0)), []⟩,
 ⟨some 4, none, .e (.call 68 [(.t 3), (.v (.str [34])), (.v (.str [34, 34]))]), []⟩,
 ⟨some 5, none, .q (.bin .add (.v (.str [34])) (.t 4)), []⟩,
 ⟨some 6, none, .q (.bin .add (.t 5) (.v (.str [34]))), []⟩,
 ⟨some 2, none, .q (.mv (.t 6)), []⟩]
def c50_2 : ACode := .seq c50_1 .ret
def c50_3 : ACode := .seq c50_0 c50_2
@[go_sem] def c50_0_wp := wp_of c50_0.eq_1
@[go_sem] def c50_1_wp := wp_of c50_1.eq_1
@[go_sem] def c50_2_wp := wp_of c50_2.eq_1
@[go_sem] def c50_3_wp := wp_of c50_3.eq_1
def c50 : AFn := ⟨7, [.t 2], c50_3⟩
theorem c50_ok : compF Tryz.prog Tryz.f50 = some c50 := by kernel_rfl
theorem a50 {args : List AV} {σ : ASt} {R : AV → ASt → Prop} (hl : args.length ≤ 7) (h : c50_3.wp Tryz.prog (RetQ [.t 2] R) (init args) σ) : ACalls Tryz.prog 50 args σ R := acalls_of Tryz.func50 c50_ok hl h
end Go.A
namespace Go.A
open Go.Proofs Go.Lib
def dbl (s : List UInt8) : List UInt8 := s.flatMap fun c => if c = 34 then [34, 34] else [c]
theorem dbl_q (s : List UInt8) : dbl (34 :: s) = 34 :: 34 :: dbl s := by simp [dbl]
theorem dbl_o {c : UInt8} (h : c ≠ 34) (s : List UInt8) : dbl (c :: s) = c :: dbl s := by simp [dbl, h]
theorem dbl_app (u v : List UInt8) : dbl (u ++ v) = dbl u ++ dbl v := by simp [dbl]
theorem rep_ne {c : UInt8} (hc : c ≠ 34) (new : List UInt8) : ∀ (k : Nat) (s : List UInt8), replaceK [34] new k (c :: s) = c :: replaceK [34] new k s
 | 0, s => rfl
 | k + 1, s => by
   have hp : ([34] : List UInt8).isPrefixOf (c :: s) = false := by
    simp [List.isPrefixOf]
    exact fun h => hc h.symm
   have hi : index (c :: s) [34] = if index s [34] == -1 then -1 else index s [34] + 1 := by
    rw [index, hp]
    simp
   unfold replaceK
   rw [hi]
   have hge := index_ge s [34]
   by_cases h : index s [34] = -1
   ·have hb : (index s [34] == -1) = true := by rw [h]; rfl
    rw [if_pos hb, if_pos (by rfl), if_pos hb]
   ·have hb : ¬ (index s [34] == -1) = true := by rw [beq_iff_eq]; exact h
    rw [if_neg hb, if_neg (by rw [beq_iff_eq]; omega), if_neg hb]
    have e : (index s [34] + 1).toNat = (index s [34]).toNat + 1 := by omega
    rw [e, List.take_succ_cons]
    simp only [List.length_cons, List.length_nil, List.cons_append]
    rw [show (index s [34]).toNat + 1 + (0 + 1) = ((index s [34]).toNat + (0 + 1)) + 1 by omega, List.drop_succ_cons]
theorem rep_eq (new : List UInt8) (k : Nat) (s : List UInt8) : replaceK [34] new (k + 1) (34 :: s) = new ++ replaceK [34] new k s := by
 have hi : index (34 :: s) [34] = 0 := by
  rw [index]
  simp [List.isPrefixOf]
 rw [replaceK, hi]
 simp
theorem rep_dbl : ∀ s : List UInt8, replaceK [34] [34, 34] (s.count 34) s = dbl s
 | [] => rfl
 | c :: s => by
   by_cases hc : c = 34
   ·subst hc
    rw [List.count_cons_self, rep_eq, rep_dbl s, dbl_q]
    rfl
   ·rw [List.count_cons_of_ne (by simpa using hc), rep_ne hc, rep_dbl s, dbl_o hc]
theorem replace_dbl (s : List UInt8) : replaceAll s [34] [34, 34] = dbl s := by
 unfold replaceAll replace replaceNum
 rw [if_neg (by decide), if_pos (.inl (by omega)), count_one, rep_dbl]
theorem dbl_len (s : List UInt8) : (dbl s).length ≤ 2 * s.length := by
 induction s with
 | nil => simp [dbl]
 | cons c s ih =>
   by_cases hc : c = 34
   ·subst hc; rw [dbl_q]; simp; omega
   ·rw [dbl_o hc]; simp; omega
def MaxL (σ : ASt) : Prop := ∃ m : Int, σ 1 = some (.fix ([m].map (AV.int .i64)))
theorem replace_ok {σ : ASt} (hM : MaxL σ) (s : List UInt8) (hs : s.length ≤ 100000) : ACalls Tryz.prog 68 [.str s, .str [34], .str [34, 34]] σ fun v σ' => v = .str (dbl s) ∧ σ' = σ := by
 obtain ⟨m, hm⟩ := hM
 refine ACalls.of_below (u := .string ⟨⟨dbl s⟩⟩) (fun w vs hsim ha => ?_) fun w => .str _
 cases ha with
 | cons h1 h2 =>
 cases h2 with
 | cons h2 h3 =>
 cases h3 with
 | cons h3 h4 =>
 cases h1; cases h2; cases h3; cases h4
 have hcell := fix_ints hsim hm 0 m rfl
 have e1 : (⟨⟨s⟩⟩ : ByteArray).size = s.length := rfl
 have e2 : (⟨⟨[34, 34]⟩⟩ : ByteArray).size = 2 := rfl
 have hcb : countB ⟨⟨s⟩⟩ ⟨⟨[34]⟩⟩ ≤ s.length := by
  show count s [34] ≤ s.length
  rw [count_one]
  exact List.count_le_length
 refine (Tryz.strings_ReplaceAll ⟨⟨s⟩⟩ ⟨⟨[34]⟩⟩ ⟨⟨[34, 34]⟩⟩ m w (by rw [e1]; omega) hcell (by decide) (by rw [e1, e2]; omega)).mono ?_
 rintro e w' ⟨rfl, hb⟩
 refine ⟨?_, hb⟩
 show _ = Ending.returned (.string ⟨⟨dbl s⟩⟩)
 rw [← replace_dbl]
theorem tquote_ok {σ : ASt} (hM : MaxL σ) (s : List UInt8) (hs : s.length ≤ 100000) : ACalls Tryz.prog 50 [.str s] σ fun v σ' => v = .str (34 :: dbl s ++ [34]) ∧ σ' = σ := by
 have hl := dbl_len s
 refine a50 (by simp) ?_
 simp (disch := first | assumption | omega) only [go_sem, reduceCtorEq, ↓reduceIte]
 refine (replace_ok hM s hs).mono ?_
 rintro v σ' ⟨rfl, rfl⟩
 have e1 : binS .add [34] (dbl s) = some (.str (34 :: dbl s)) := binS_add (by simp; omega)
 have e2 : binS .add (34 :: dbl s) [34] = some (.str (34 :: dbl s ++ [34])) := binS_add (by simp; omega)
 simp (disch := first | assumption | omega) only [go_sem, ↓reduceIte, e1, e2]
 exact retC_by (Drop.refl _) (.refl _) ⟨rfl, rfl⟩
end Go.A
namespace Go.A
open Go.Proofs
/-! 52: (tabular/addr.Ref).Text -/
def c52_0 : ACode := .ops [
 ⟨some 1, none, .e (.box (.t 0)), []⟩,
 ⟨some 2, none, .q (.mv (.v (.str []))), []⟩]
def c52_1 : ACode := .ops [
 ⟨some 3, none, .q (.fa 3 (.t 1)), []⟩,
 ⟨some 4, none, .q (.ld none (.t 3)), []⟩,
 ⟨some 6, none, .q (.fa 1 (.t 1)), []⟩,
 ⟨some 7, none, .q (.ld none (.t 6)), []⟩,
 ⟨some 10, none, .q (.fa 2 (.t 1)), []⟩,
 ⟨some 11, none, .q (.ld none (.t 10)), []⟩,
 ⟨some 14, none, .q (.fa 0 (.t 1)), []⟩,
 ⟨some 15, none, .q (.ld none (.t 14)), []⟩,
 ⟨some 16, none, .q (.bin .add (.t 15) (.v (.int .i64 1))), []⟩,
 ⟨some 5, none, .e (.call 69 [(.t 4)]), [⟨none, .ld none (.t 6), 7⟩, ⟨none, .ld none (.t 10), 11⟩, ⟨none, .ld none (.t 14), 15⟩]⟩,
 ⟨some 8, none, .e (.call 70 [(.t 7)]), [⟨none, .ld none (.t 10), 11⟩, ⟨none, .ld none (.t 14), 15⟩]⟩,
 ⟨some 9, none, .q (.bin .add (.t 5) (.t 8)), []⟩,
 ⟨some 12, none, .e (.call 69 [(.t 11)]), [⟨none, .ld none (.t 14), 15⟩]⟩,
 ⟨some 13, none, .q (.bin .add (.t 9) (.t 12)), []⟩,
 ⟨some 17, none, .e (.call 71 [(.t 16)]), []⟩,
 ⟨some 18, none, .q (.bin .add (.t 13) (.t 17)), []⟩,
 ⟨some 2, none, .q (.mv (.t 18)), []⟩]
def c52_2 : ACode := .seq c52_1 .ret
def c52_3 : ACode := .seq c52_0 c52_2
@[go_sem] def c52_0_wp := wp_of c52_0.eq_1
@[go_sem] def c52_1_wp := wp_of c52_1.eq_1
@[go_sem] def c52_2_wp := wp_of c52_2.eq_1
@[go_sem] def c52_3_wp := wp_of c52_3.eq_1
def c52 : AFn := ⟨19, [.t 2], c52_3⟩
theorem c52_ok : compF Tryz.prog Tryz.f52 = some c52 := by kernel_rfl
theorem a52 {args : List AV} {σ : ASt} {R : AV → ASt → Prop} (hl : args.length ≤ 19) (h : c52_3.wp Tryz.prog (RetQ [.t 2] R) (init args) σ) : ACalls Tryz.prog 52 args σ R := acalls_of Tryz.func52 c52_ok hl h
/-! 53: (tabular/addr.Area).Text -/
def c53_0 : ACode := .ops [
 ⟨some 1, none, .e (.box (.t 0)), []⟩,
 ⟨some 2, none, .q (.mv (.v (.str []))), []⟩]
def c53_1 : ACode := .ops [
 ⟨some 3, none, .q (.fa 0 (.t 1)), []⟩,
 ⟨some 4, none, .q (.ld (some 4) (.t 3)), []⟩,
 ⟨some 7, none, .q (.fa 4 (.t 1)), []⟩,
 ⟨some 8, none, .q (.ld (some 4) (.t 7)), []⟩,
 ⟨some 5, none, .e (.call 52 [(.t 4)]), [⟨none, .ld (some 4) (.t 7), 8⟩]⟩,
 ⟨some 6, none, .q (.bin .add (.t 5) (.v (.str [58]))), []⟩,
 ⟨some 9, none, .e (.call 52 [(.t 8)]), []⟩,
 ⟨some 10, none, .q (.bin .add (.t 6) (.t 9)), []⟩,
 ⟨some 2, none, .q (.mv (.t 10)), []⟩]
def c53_2 : ACode := .seq c53_1 .ret
def c53_3 : ACode := .seq c53_0 c53_2
@[go_sem] def c53_0_wp := wp_of c53_0.eq_1
@[go_sem] def c53_1_wp := wp_of c53_1.eq_1
@[go_sem] def c53_2_wp := wp_of c53_2.eq_1
@[go_sem] def c53_3_wp := wp_of c53_3.eq_1
def c53 : AFn := ⟨11, [.t 2], c53_3⟩
theorem c53_ok : compF Tryz.prog Tryz.f53 = some c53 := by kernel_rfl
theorem a53 {args : List AV} {σ : ASt} {R : AV → ASt → Prop} (hl : args.length ≤ 11) (h : c53_3.wp Tryz.prog (RetQ [.t 2] R) (init args) σ) : ACalls Tryz.prog 53 args σ R := acalls_of Tryz.func53 c53_ok hl h
/-! 69: tabular/addr.dollar -/
def c69_0 : ACode := .ops [
 ⟨some 2, none, .q (.mv (.v (.str []))), []⟩]
def c69_1 : ACode := .ops [
 ⟨some 3, none, .q (.mv (.t 0)), []⟩]
def c69_2 : ACode := .ops [
 ⟨some 2, none, .q (.mv (.v (.str [36]))), []⟩]
def c69_3 : ACode := .seq c69_2 .ret
def c69_4 : ACode := .cond (.t 3) c69_3 .skip
def c69_5 : ACode := .seq c69_1 c69_4
def c69_6 : ACode := .ops [
 ⟨some 2, none, .q (.mv (.v (.str []))), []⟩]
def c69_7 : ACode := .seq c69_6 .ret
def c69_8 : ACode := .seq c69_5 c69_7
def c69_9 : ACode := .seq c69_0 c69_8
@[go_sem] def c69_0_wp := wp_of c69_0.eq_1
@[go_sem] def c69_1_wp := wp_of c69_1.eq_1
@[go_sem] def c69_2_wp := wp_of c69_2.eq_1
@[go_sem] def c69_3_wp := wp_of c69_3.eq_1
@[go_sem] def c69_4_wp := wp_of c69_4.eq_1
@[go_sem] def c69_5_wp := wp_of c69_5.eq_1
@[go_sem] def c69_6_wp := wp_of c69_6.eq_1
@[go_sem] def c69_7_wp := wp_of c69_7.eq_1
@[go_sem] def c69_8_wp := wp_of c69_8.eq_1
@[go_sem] def c69_9_wp := wp_of c69_9.eq_1
def c69 : AFn := ⟨4, [.t 2], c69_9⟩
theorem c69_ok : compF Tryz.prog Tryz.f69 = some c69 := by kernel_rfl
theorem a69 {args : List AV} {σ : ASt} {R : AV → ASt → Prop} (hl : args.length ≤ 4) (h : c69_9.wp Tryz.prog (RetQ [.t 2] R) (init args) σ) : ACalls Tryz.prog 69 args σ R := acalls_of Tryz.func69 c69_ok hl h
end Go.A
namespace Go.A
open Go.Proofs
theorem dollar_ok (b : Bool) : Pure Tryz.prog 69 [.bool b] (.str (dolP b)) := by
 intro σ
 refine a69 (by simp) ?_
 cases b
 ·simp (disch := first | assumption | omega) only [go_sem, reduceCtorEq, ↓reduceIte]
  exact retC_by (Drop.refl _) (.refl _) ⟨rfl, rfl⟩
 ·simp (disch := first | assumption | omega) only [go_sem, reduceCtorEq, ↓reduceIte]
  exact retC_by (Drop.refl _) (.refl _) ⟨rfl, rfl⟩
theorem text_ok {σ : ASt} (ht : Tab σ) {r : Ref} (hg : r.good = true) : ACalls Tryz.prog 52 [refAV r] σ fun v σ' => v = .str (textP r) ∧ σ' = σ := by
 have hg' := hg
 simp only [Ref.good, decide_eq_true_eq] at hg'
 obtain ⟨g1, g2, g3, g4⟩ := hg'
 have hi := itoa_num g1 g2
 have hl := letters_len r.col
 have hn := (num_facts g1 g2).2.2.2.1
 have hd1 : (dolP r.absCol).length ≤ 1 := by unfold dolP; split <;> simp
 have hd2 : (dolP r.absRow).length ≤ 1 := by unfold dolP; split <;> simp
 obtain ⟨l, hlq⟩ : ∃ l, textP r = l := ⟨_, rfl⟩
 rw [hlq]
 unfold textP at hlq
 refine a52 (by simp) ?_
 simp (disch := first | assumption | omega | (simp only [List.length_append, List.length_cons, List.length_nil]; omega)) only [go_sem, refAV]
 refine boxC_by rfl fun b hb => ?_
 simp (disch := first | assumption | omega | (simp only [List.length_append, List.length_cons, List.length_nil]; omega)) only [go_sem, Nat.reduceEqDiff, ↓reduceIte]
 refine (dollar_ok _).use ?_
 simp (disch := first | assumption | omega | (simp only [List.length_append, List.length_cons, List.length_nil]; omega)) only [go_sem, Nat.reduceEqDiff, ↓reduceIte]
 refine (letters_ok _).use ?_
 simp (disch := first | assumption | omega | (simp only [List.length_append, List.length_cons, List.length_nil]; omega)) only [go_sem, Nat.reduceEqDiff, ↓reduceIte]
 refine (dollar_ok _).use ?_
 simp (disch := first | assumption | omega | (simp only [List.length_append, List.length_cons, List.length_nil]; omega)) only [go_sem, Nat.reduceEqDiff, ↓reduceIte]
 refine (itoa_ok (ht.set hb) (by omega) (by omega)).mono ?_
 rintro v σ' ⟨rfl, rfl⟩
 rw [hi]
 simp (disch := first | assumption | omega | (simp only [List.length_append, List.length_cons, List.length_nil]; omega)) only [go_sem, Nat.reduceEqDiff, ↓reduceIte, hlq]
 exact retC_by (by repeat' (first | exact Drop.refl _ | with_reducible refine Drop.off ?_ (by assumption))) (.refl _) ⟨rfl, rfl⟩
theorem atext_ok {σ : ASt} (ht : Tab σ) {a b : Ref} (ha : a.good = true) (hb : b.good = true) : ACalls Tryz.prog 53 [areaAV a b] σ fun v σ' => v = .str (textP a ++ [58] ++ textP b) ∧ σ' = σ := by
 have l1 := text_len ha
 have l2 := text_len hb
 refine a53 (by simp) ?_
 simp (disch := first | assumption | omega) only [go_sem, areaAV]
 refine boxC_by rfl fun b0 hb0 => ?_
 simp (disch := first | assumption | omega) only [go_sem, Nat.reduceEqDiff, Nat.reduceAdd, Nat.reduceLeDiff, ↓reduceIte]
 refine (text_ok (ht.set hb0) ha).mono ?_
 rintro v σ' ⟨rfl, rfl⟩
 have e1 : binS .add (textP a) [58] = some (.str (textP a ++ [58])) := binS_add (by simp only [List.length_cons, List.length_nil]; omega)
 have e2 : binS .add (textP a ++ [58]) (textP b) = some (.str (textP a ++ [58] ++ textP b)) := binS_add (by simp only [List.length_append, List.length_cons, List.length_nil]; omega)
 simp (disch := first | assumption | omega) only [go_sem, Nat.reduceEqDiff, Nat.reduceAdd, Nat.reduceLeDiff, ↓reduceIte, e1]
 refine (text_ok (ht.set hb0) hb).mono ?_
 rintro v σ' ⟨rfl, rfl⟩
 simp (disch := first | assumption | omega) only [go_sem, Nat.reduceEqDiff, ↓reduceIte, e2]
 exact retC_by (by repeat' (first | exact Drop.refl _ | with_reducible refine Drop.off ?_ (by assumption))) (.refl _) ⟨rfl, rfl⟩
end Go.A
namespace Go.A
open Go.Proofs
/-! 43: (tabular/deci.Dec).Whole -/
def c43_0 : ACode := .ops [
 ⟨some 2, none, .q (.mv (.v (.int .i64 0))), []⟩]
def c43_1 : ACode := .ops [
 ⟨some 3, none, .q (.mv (.t 0)), []⟩,
 ⟨some 4, none, .q (.bin .quo (.t 3) (.v (.int .i64 10000))), []⟩,
 ⟨some 2, none, .q (.mv (.t 4)), []⟩]
def c43_2 : ACode := .seq c43_1 .ret
def c43_3 : ACode := .seq c43_0 c43_2
@[go_sem] def c43_0_wp := wp_of c43_0.eq_1
@[go_sem] def c43_1_wp := wp_of c43_1.eq_1
@[go_sem] def c43_2_wp := wp_of c43_2.eq_1
@[go_sem] def c43_3_wp := wp_of c43_3.eq_1
def c43 : AFn := ⟨5, [.t 2], c43_3⟩
theorem c43_ok : compF Tryz.prog Tryz.f43 = some c43 := by kernel_rfl
theorem a43 {args : List AV} {σ : ASt} {R : AV → ASt → Prop} (hl : args.length ≤ 5) (h : c43_3.wp Tryz.prog (RetQ [.t 2] R) (init args) σ) : ACalls Tryz.prog 43 args σ R := acalls_of Tryz.func43 c43_ok hl h
/-! 49: (tabular/deci.Dec).Text -/
def c49_0 : ACode := .ops [
 ⟨some 2, none, .q (.mv (.v (.str []))), []⟩]
def c49_1 : ACode := .ops [
 ⟨some 6, none, .q (.mv (.t 0)), []⟩,
 ⟨some 7, none, .e (.call 65 [(.t 6)]), []⟩,
 ⟨some 3, none, .q (.mv (.t 7)), []⟩]
def c49_2 : ACode := .ops [
 ⟨some 8, none, .q (.mv (.t 3)), []⟩,
 ⟨some 9, none, .q (.bin .quo (.t 8) (.v (.int .u64 10000))), []⟩,
 ⟨some 10, none, .e (.call 66 [(.t 9), (.v (.int .i64 10))]), []⟩,
 ⟨some 4, none, .q (.mv (.t 10)), []⟩]
def c49_3 : ACode := .ops [
 ⟨some 11, none, .q (.mv (.t 3)), []⟩,
 ⟨some 12, none, .q (.bin .rem (.t 11) (.v (.int .u64 10000))), []⟩,
 ⟨some 5, none, .q (.mv (.t 12)), []⟩]
def c49_4 : ACode := .ops [
 ⟨some 13, none, .q (.mv (.t 5)), []⟩,
 ⟨some 14, none, .q (.bin .gtr (.t 13) (.v (.int .u64 0))), []⟩]
def c49_5 : ACode := .ops [
 ⟨some 15, none, .q (.mv (.t 4)), []⟩,
 ⟨some 16, none, .q (.mv (.t 5)), []⟩,
 ⟨some 17, none, .q (.bin .add (.v (.int .u64 10000)) (.t 16)), []⟩,
 ⟨some 18, none, .e (.call 66 [(.t 17), (.v (.int .i64 10))]), []⟩,
 ⟨some 19, none, .q (.slfrom (true, 0) (.t 18) (.v (.int .i64 1))), []⟩,
 ⟨some 20, none, .e (.call 67 [(.t 19), (.v (.str [48]))]), []⟩,
 ⟨some 21, none, .q (.bin .add (.v (.str [46])) (.t 20)), []⟩,
 ⟨some 22, none, .q (.bin .add (.t 15) (.t 21)), []⟩,
 ⟨some 4, none, .q (.mv (.t 22)), []⟩]
def c49_6 : ACode := .cond (.t 14) c49_5 .skip
def c49_7 : ACode := .seq c49_4 c49_6
def c49_8 : ACode := .seq c49_3 c49_7
def c49_9 : ACode := .ops [
 ⟨some 23, none, .q (.mv (.t 0)), []⟩,
 ⟨some 24, none, .q (.bin .lss (.t 23) (.v (.int .i64 0))), []⟩]
def c49_10 : ACode := .ops [
 ⟨some 25, none, .q (.mv (.t 4)), []⟩,
 ⟨some 26, none, .q (.bin .add (.v (.str [45])) (.t 25)), []⟩,
 ⟨some 2, none, .q (.mv (.t 26)), []⟩]
def c49_11 : ACode := .seq c49_10 .ret
def c49_12 : ACode := .cond (.t 24) c49_11 .skip
def c49_13 : ACode := .seq c49_9 c49_12
def c49_14 : ACode := .ops [
 ⟨some 27, none, .q (.mv (.t 4)), []⟩,
 ⟨some 2, none, .q (.mv (.t 27)), []⟩]
def c49_15 : ACode := .seq c49_14 .ret
def c49_16 : ACode := .seq c49_13 c49_15
def c49_17 : ACode := .seq c49_8 c49_16
def c49_18 : ACode := .seq c49_2 c49_17
def c49_19 : ACode := .seq c49_1 c49_18
def c49_20 : ACode := .seq c49_0 c49_19
@[go_sem] def c49_0_wp := wp_of c49_0.eq_1
@[go_sem] def c49_1_wp := wp_of c49_1.eq_1
@[go_sem] def c49_2_wp := wp_of c49_2.eq_1
@[go_sem] def c49_3_wp := wp_of c49_3.eq_1
@[go_sem] def c49_4_wp := wp_of c49_4.eq_1
@[go_sem] def c49_5_wp := wp_of c49_5.eq_1
@[go_sem] def c49_6_wp := wp_of c49_6.eq_1
@[go_sem] def c49_7_wp := wp_of c49_7.eq_1
@[go_sem] def c49_8_wp := wp_of c49_8.eq_1
@[go_sem] def c49_9_wp := wp_of c49_9.eq_1
@[go_sem] def c49_10_wp := wp_of c49_10.eq_1
@[go_sem] def c49_11_wp := wp_of c49_11.eq_1
@[go_sem] def c49_12_wp := wp_of c49_12.eq_1
@[go_sem] def c49_13_wp := wp_of c49_13.eq_1
@[go_sem] def c49_14_wp := wp_of c49_14.eq_1
@[go_sem] def c49_15_wp := wp_of c49_15.eq_1
@[go_sem] def c49_16_wp := wp_of c49_16.eq_1
@[go_sem] def c49_17_wp := wp_of c49_17.eq_1
@[go_sem] def c49_18_wp := wp_of c49_18.eq_1
@[go_sem] def c49_19_wp := wp_of c49_19.eq_1
@[go_sem] def c49_20_wp := wp_of c49_20.eq_1
def c49 : AFn := ⟨28, [.t 2], c49_20⟩
theorem c49_ok : compF Tryz.prog Tryz.f49 = some c49 := by kernel_rfl
theorem a49 {args : List AV} {σ : ASt} {R : AV → ASt → Prop} (hl : args.length ≤ 28) (h : c49_20.wp Tryz.prog (RetQ [.t 2] R) (init args) σ) : ACalls Tryz.prog 49 args σ R := acalls_of Tryz.func49 c49_ok hl h
/-! 65: tabular/deci.size -/
def c65_0 : ACode := .ops [
 ⟨some 2, none, .q (.mv (.v (.int .u64 0))), []⟩]
def c65_1 : ACode := .ops [
 ⟨some 3, none, .q (.mv (.t 0)), []⟩,
 ⟨some 4, none, .q (.bin .lss (.t 3) (.v (.int .i64 0))), []⟩]
def c65_2 : ACode := .ops [
 ⟨some 5, none, .q (.mv (.t 0)), []⟩,
 ⟨some 6, none, .q (.un .neg (.t 5)), []⟩,
 ⟨some 7, none, .q (.conv .u64 (.t 6)), []⟩,
 ⟨some 2, none, .q (.mv (.t 7)), []⟩]
def c65_3 : ACode := .seq c65_2 .ret
def c65_4 : ACode := .cond (.t 4) c65_3 .skip
def c65_5 : ACode := .seq c65_1 c65_4
def c65_6 : ACode := .ops [
 ⟨some 8, none, .q (.mv (.t 0)), []⟩,
 ⟨some 9, none, .q (.conv .u64 (.t 8)), []⟩,
 ⟨some 2, none, .q (.mv (.t 9)), []⟩]
def c65_7 : ACode := .seq c65_6 .ret
def c65_8 : ACode := .seq c65_5 c65_7
def c65_9 : ACode := .seq c65_0 c65_8
@[go_sem] def c65_0_wp := wp_of c65_0.eq_1
@[go_sem] def c65_1_wp := wp_of c65_1.eq_1
@[go_sem] def c65_2_wp := wp_of c65_2.eq_1
@[go_sem] def c65_3_wp := wp_of c65_3.eq_1
@[go_sem] def c65_4_wp := wp_of c65_4.eq_1
@[go_sem] def c65_5_wp := wp_of c65_5.eq_1
@[go_sem] def c65_6_wp := wp_of c65_6.eq_1
@[go_sem] def c65_7_wp := wp_of c65_7.eq_1
@[go_sem] def c65_8_wp := wp_of c65_8.eq_1
@[go_sem] def c65_9_wp := wp_of c65_9.eq_1
def c65 : AFn := ⟨10, [.t 2], c65_9⟩
theorem c65_ok : compF Tryz.prog Tryz.f65 = some c65 := by kernel_rfl
theorem a65 {args : List AV} {σ : ASt} {R : AV → ASt → Prop} (hl : args.length ≤ 10) (h : c65_9.wp Tryz.prog (RetQ [.t 2] R) (init args) σ) : ACalls Tryz.prog 65 args σ R := acalls_of Tryz.func65 c65_ok hl h
/-! 66: strconv.FormatUint -/
def c66_0 : ACode := .ops [
 ⟨some 4, none, .q (.mv (.v (.str []))), []⟩]
def c66_1 : ACode := .ops [
 ⟨some 5, none, .q (.mv (.t 0)), []⟩,
 ⟨some 6, none, .q (.mv (.t 1)), []⟩,
 ⟨some 7, none, .e (.call 77 [(.t 5), (.t 6)]), []⟩,
 ⟨some 4, none, .q (.mv (.t 7)), []⟩]
def c66_2 : ACode := .seq c66_1 .ret
def c66_3 : ACode := .seq c66_0 c66_2
@[go_sem] def c66_0_wp := wp_of c66_0.eq_1
@[go_sem] def c66_1_wp := wp_of c66_1.eq_1
@[go_sem] def c66_2_wp := wp_of c66_2.eq_1
@[go_sem] def c66_3_wp := wp_of c66_3.eq_1
def c66 : AFn := ⟨8, [.t 4], c66_3⟩
theorem c66_ok : compF Tryz.prog Tryz.f66 = some c66 := by kernel_rfl
theorem a66 {args : List AV} {σ : ASt} {R : AV → ASt → Prop} (hl : args.length ≤ 8) (h : c66_3.wp Tryz.prog (RetQ [.t 4] R) (init args) σ) : ACalls Tryz.prog 66 args σ R := acalls_of Tryz.func66 c66_ok hl h
end Go.A
namespace Go.A
open Go.Proofs Go.Shelf Go.RowKit Go.Sort
set_option maxHeartbeats 4000000 in
theorem fmtU_small (u : Nat) (hu : u < 100) (w : World) : Calls Tryz.prog 77 #[.int .u64 u, .int .i64 10] w fun e w' => e = .returned (.string ⟨(Lib.decDigits u).toArray⟩) ∧ Ext w w' := by
 have iu : (u : Int) < 100 := by omega
 go_enter Tryz.func77, Tryz.ntmps77
 go_wp2_with (go_at_call 84; refine (Tryz.internal_strconv_small u hu _).mono ?_; rintro e w' ⟨rfl, rfl⟩)
 go_ret
 exact ⟨rfl, Ext.refl _⟩
set_option maxHeartbeats 12800000 in
theorem fmtU_big (u : Nat) (hu : 100 ≤ u) (hu64 : u < 18446744073709551616) (w : World) (htab : Lib.TabIs Tryz.prog w "internal/strconv.uint64pow10" .u64 Lib.pow10Tab) :
  Calls Tryz.prog 77 #[.int .u64 u, .int .i64 10] w fun e w' => e = .returned (.string ⟨(Lib.decDigits u).toArray⟩) ∧ Ext w w' := by
 have hu1 : 1 ≤ u := by omega
 have hnd20 : Lib.nDigits u ≤ 20 := by have := Lib.numDigits_eq u hu1 hu64; split at this <;> omega
 have hal : Tryz.prog.arrayLen 121 = 24 := by kernel_rfl
 have hsl : ∀ W, (Instr.sliceAt 121 (.pointer (some ⟨w.heap.size, 0, none⟩)) none (some (.int .i64 (Lib.nDigits u : Int))) none).run Tryz.prog W = .ok (.slice (some ⟨w.heap.size, 0, none⟩) (Lib.nDigits u) 24) W := fun W => by
  rw [run_sliceAt_array_h W 121 ⟨w.heap.size, 0, none⟩ (by kernel_rfl) .i64 (Lib.nDigits u : Int) (by omega) (by rw [hal]; omega)]
  rw [hal]
  rfl
 have hH0 := Lib.holds_zero0 w 121 (Lib.nDigits u) (by omega)
 have hfmt := Tryz.internal_strconv_formatBase10 w.heap.size 0 24 u (Array.replicate (Lib.nDigits u) 0) (w.alloc (.cells Lib.zeros24 121)) hH0 (by rw [Array.size_replicate]; exact Lib.lt_pow_nDigits u) hu64 (by rw [Array.size_replicate]; omega)
 rw [Array.size_replicate] at hfmt
 have HH0 := Lib.hid hH0
 have iu : (100 : Int) ≤ (u : Int) := by omega
 clear hH0 hal
 go_enter Tryz.func77, Tryz.ntmps77
 go_wp2_with (first
  | (go_at_call 85; refine (Tryz.internal_strconv_numDigits u hu1 hu64 _ (Lib.tabIs_alloc htab _)).mono ?_; rintro e w' ⟨rfl, rfl⟩))
 go_at_call 86
 refine hfmt.mono ?_
 rintro e w' ⟨rfl, k, v', dk, rfl, hF⟩
 have hcv : (convert 51 9 (.slice (some ⟨w.heap.size, 0, none⟩) (Lib.nDigits u) 24)).run Tryz.prog ((putRow (fun (b : UInt8) => Value.int .u8 (b.toNat : Int)) (w.alloc (.cells Lib.zeros24 121)) w.heap.size 0 dk).drewN k) = .ok (.string ⟨(Lib.decDigits u).toArray⟩) ((putRow (fun (b : UInt8) => Value.int .u8 (b.toNat : Int)) (w.alloc (.cells Lib.zeros24 121)) w.heap.size 0 dk).drewN k) := by
  have h := run_convert_bytes_back (P := Tryz.prog) ((putRow (fun (b : UInt8) => Value.int .u8 (b.toNat : Int)) (w.alloc (.cells Lib.zeros24 121)) w.heap.size 0 dk).drewN k) 51 9 5 ⟨w.heap.size, 0, none⟩ 24 (Lib.decDigits u) Tryz.underlying51 Tryz.underlying5 Tryz.underlying9 (fun j hj => by
   rw [Lib.row_is_numeral hF j hj, Lib.add_plain, World.cell?_drewN]
   exact cell?_putRow (fun (b : UInt8) => Value.int .u8 (b.toNat : Int)) _ w.heap.size 0 _ dk HH0.out (by rw [hF.size, Array.size_replicate]) j (by rw [hF.size]; rw [Lib.decDigits_length] at hj; exact hj))
  rw [Lib.decDigits_length] at h
  exact h
 go_wp2
 go_ret
 obtain ⟨os, eo⟩ := Lib.fin_at w (.cells Lib.zeros24 121) dk k 0
 refine ⟨rfl, ?_⟩
 rw [eo]
 exact ext_grow w k os
theorem ifmt_ok {σ : ASt} (h : Tab σ) {u : Nat} (hu : u < 18446744073709551616) : ACalls Tryz.prog 77 [.int .u64 u, .int .i64 10] σ fun v σ' => v = .str (Lib.decDigits u) ∧ σ' = σ := by
 refine ACalls.of_ext (u := .string ⟨(Lib.decDigits u).toArray⟩) (fun w vs hs ha => ?_) fun w => .str _
 cases ha with
 | cons h1 h2 =>
 cases h2 with
 | cons h2 h3 =>
 cases h1; cases h2; cases h3
 by_cases hs2 : u < 100
 ·exact fmtU_small u hs2 w
 ·exact fmtU_big u (by omega) hu w (tabIs_of hs (by kernel_rfl) h)
theorem fmt_ok {σ : ASt} (h : Tab σ) {u : Nat} (hu : u < 18446744073709551616) : ACalls Tryz.prog 66 [.int .u64 u, .int .i64 10] σ fun v σ' => v = .str (Lib.decDigits u) ∧ σ' = σ := by
 refine a66 (by simp) ?_
 simp (disch := first | assumption | omega) only [go_sem, reduceCtorEq, Nat.reduceEqDiff, ↓reduceIte]
 refine (ifmt_ok h hu).mono ?_
 rintro v σ' ⟨rfl, rfl⟩
 simp (disch := first | assumption | omega) only [go_sem, ↓reduceIte]
 exact retC_by (Drop.refl _) (.refl _) ⟨rfl, rfl⟩
theorem trimRight_ok (s : List UInt8) (c : UInt8) (hc : c.toNat < 128) (hsl : s.length ≤ 9223372036854775807) : Pure Tryz.prog 67 [.str s, .str [c]] (.str (Lib.trimRightB s c)) := by
 intro σ
 refine ACalls.of_ext (u := .string ⟨(Lib.trimRightB s c).toArray⟩) (fun w vs hs ha => ?_) fun w => .str _
 cases ha with
 | cons h1 h2 =>
 cases h2 with
 | cons h2 h3 =>
 cases h1; cases h2; cases h3
 exact (Tryz.strings_TrimRight_one ⟨⟨s⟩⟩ c hc w (by simpa [ByteArray.size] using hsl)).mono fun e w' ⟨he, hw⟩ => ⟨he, Ext.of_eq hw⟩
end Go.A
namespace Go.A
open Go.Proofs
theorem size_ok (a : Int) (h0 : -9223372036854775808 ≤ a) (h1 : a ≤ 9223372036854775807) : Pure Tryz.prog 65 [.int .i64 a] (.int .u64 (a.natAbs : Nat)) := by
 intro σ
 refine a65 (by simp) ?_
 by_cases h : a < 0
 ·have e : IntKind.u64.wrap (IntKind.i64.wrap (0 - a)) = ((a.natAbs : Nat) : Int) := by rw [IntKind.wrap_u64, IntKind.wrap_i64]; omega
  simp (disch := first | assumption | omega) only [go_sem, reduceCtorEq, ↓reduceIte, h, e]
  exact retC_by (by repeat' (first | exact Drop.refl _ | with_reducible refine Drop.off ?_ (by assumption))) (.refl _) ⟨rfl, rfl⟩
 ·have e : IntKind.u64.wrap a = ((a.natAbs : Nat) : Int) := by rw [IntKind.wrap_u64]; omega
  simp (disch := first | assumption | omega) only [go_sem, reduceCtorEq, ↓reduceIte, h, e]
  exact retC_by (by repeat' (first | exact Drop.refl _ | with_reducible refine Drop.off ?_ (by assumption))) (.refl _) ⟨rfl, rfl⟩
end Go.A
namespace Go.A
open Go.Proofs
theorem dtext_ok {σ : ASt} (h : Tab σ) {a : Int} (ha : a.natAbs ≤ 999999999999999999) : ACalls Tryz.prog 49 [.int .i64 a] σ fun v σ' => v = .str (textD a) ∧ σ' = σ := by
 have hS := size_ok a (by omega) (by omega)
 obtain ⟨T, hT⟩ : ∃ T, textD a = T := ⟨_, rfl⟩
 rw [hT]
 unfold textD placesP at hT
 obtain ⟨s, hs⟩ : ∃ s, a.natAbs = s := ⟨_, rfl⟩
 rw [hs] at hS hT ha
 have hd : (s : Int).tdiv 10000 = ((s / 10000 : Nat) : Int) := by rw [Int.tdiv_eq_ediv_of_nonneg (by omega)]; rfl
 have hm : (s : Int).tmod 10000 = ((s % 10000 : Nat) : Int) := by rw [Int.tmod_eq_emod_of_nonneg (by omega)]; rfl
 have hp : s % 10000 < 10000 := Nat.mod_lt _ (by omega)
 have hw : s / 10000 ≤ 99999999999999 := by omega
 obtain ⟨p, hpp⟩ : ∃ p, s % 10000 = p := ⟨_, rfl⟩
 obtain ⟨q, hqq⟩ : ∃ q, s / 10000 = q := ⟨_, rfl⟩
 rw [hpp] at hp hm hT
 rw [hqq] at hd hw hT
 have hqw : IntKind.u64.wrap (q : Int) = q := by rw [IntKind.wrap_u64]; omega
 refine a49 (by simp) ?_
 simp (disch := first | assumption | omega) only [go_sem, reduceCtorEq, ↓reduceIte]
 refine hS.use ?_
 simp (disch := first | assumption | omega) only [go_sem, ↓reduceIte, hd, hqw]
 refine (fmt_ok h (u := q) (by omega)).mono ?_
 rintro v σ' ⟨rfl, rfl⟩
 simp (disch := first | assumption | omega) only [go_sem, Nat.reduceEqDiff, ↓reduceIte, hm]
 have hql : (Lib.decDigits q).length ≤ 15 := dd_len 14 q (by omega)
 by_cases h0 : p = 0
 ·subst h0
  rw [if_pos rfl, List.append_nil] at hT
  have g0 : ¬ (0 : Int) < ((0 : Nat) : Int) := by omega
  simp (disch := first | assumption | omega) only [go_sem, reduceCtorEq, Int.reduceLT, ↓reduceIte]
  by_cases hn : a < 0
  ·have e1 : binS .add [45] (Lib.decDigits q) = some (.str T) := by rw [binS_add (by simp; omega), ← hT, if_pos hn]
   simp (disch := first | assumption | omega) only [go_sem, Nat.reduceEqDiff, ↓reduceIte, hn, e1]
   exact retC_by (by repeat' (first | exact Drop.refl _ | with_reducible refine Drop.off ?_ (by assumption))) (.refl _) ⟨rfl, rfl⟩
  ·rw [if_neg hn, List.nil_append] at hT
   subst hT
   simp (disch := first | assumption | omega) only [go_sem, Nat.reduceEqDiff, ↓reduceIte, hn]
   exact retC_by (by repeat' (first | exact Drop.refl _ | with_reducible refine Drop.off ?_ (by assumption))) (.refl _) ⟨rfl, rfl⟩
 ·rw [if_neg h0] at hT
  have g0 : (0 : Int) < (p : Int) := by omega
  have hDl : (Lib.decDigits (10000 + p)).length ≤ 5 := dd_len 4 _ (by omega)
  have hD1 : 1 ≤ (Lib.decDigits (10000 + p)).length := List.length_pos_iff.2 (dd_len_pos _)
  have hF := fmt_ok h (u := 10000 + p) (by omega)
  rw [show (((10000 + p : Nat) : Int)) = (10000 : Int) + p by omega] at hF
  have htl : (Lib.decDigits (10000 + p)).tail.length ≤ 4 := by rw [List.length_tail]; omega
  rw [← List.drop_one] at hT htl
  generalize Lib.decDigits (10000 + p) = D at *
  have hR := trimRight_ok (D.drop 1) 48 (by decide) (by omega)
  have hRl : (Lib.trimRightB (D.drop 1) 48).length ≤ 4 := by
   have := congrArg List.length (trim_back 48 (D.drop 1))
   rw [List.length_append] at this
   omega
  generalize Lib.trimRightB (D.drop 1) 48 = X at *
  have e1 : binS .add [46] X = some (.str (46 :: X)) := binS_add (by simp; omega)
  have e2 : binS .add (Lib.decDigits q) (46 :: X) = some (.str (Lib.decDigits q ++ 46 :: X)) := binS_add (by simp; omega)
  have g5 : (1 : Int) ≤ D.length := by omega
  simp (disch := first | assumption | omega) only [go_sem, Nat.reduceEqDiff, ↓reduceIte, g0]
  refine hF.mono ?_
  rintro v σ' ⟨rfl, rfl⟩
  simp (disch := first | assumption | omega) only [go_sem, ↓reduceIte, Int.reduceToNat, List.take_length]
  refine hR.use ?_
  simp (disch := first | assumption | omega) only [go_sem, reduceCtorEq, Nat.reduceEqDiff, ↓reduceIte, e1, e2]
  by_cases hn : a < 0
  ·have e3 : binS .add [45] (Lib.decDigits q ++ 46 :: X) = some (.str T) := by rw [binS_add (by simp; omega), ← hT, if_pos hn]
   simp (disch := first | assumption | omega) only [go_sem, Nat.reduceEqDiff, ↓reduceIte, hn, e3]
   exact retC_by (by repeat' (first | exact Drop.refl _ | with_reducible refine Drop.off ?_ (by assumption))) (.refl _) ⟨rfl, rfl⟩
  ·rw [if_neg hn, List.nil_append] at hT
   subst hT
   simp (disch := first | assumption | omega) only [go_sem, Nat.reduceEqDiff, ↓reduceIte, hn]
   exact retC_by (by repeat' (first | exact Drop.refl _ | with_reducible refine Drop.off ?_ (by assumption))) (.refl _) ⟨rfl, rfl⟩
end Go.A
namespace Go.A
open Go.Proofs
theorem textD_len {a : Int} (ha : a.natAbs ≤ 999999999999999999) : (textD a).length ≤ 100 := by
 have h1 : (Lib.decDigits (a.natAbs / 10000)).length ≤ 15 := dd_len 14 _ (by omega)
 have h2 : (placesP (a.natAbs % 10000)).length ≤ 10 := by
  unfold placesP
  split
  ·simp
  ·rw [dd_four (by omega)]
   have := congrArg List.length (trim_back 48 (fourP (a.natAbs % 10000)))
   rw [List.length_append] at this
   have e4 : (fourP (a.natAbs % 10000)).length = 4 := rfl
   simp
   omega
 unfold textD
 simp only [List.length_append]
 split <;> simp <;> omega
theorem whole_ok {a : Int} (ha : a.natAbs ≤ 999999999999999999) : Pure Tryz.prog 43 [.int .i64 a] (.int .i64 (a.tdiv 10000)) := by
 intro σ
 have hqb : (a.tdiv 10000).natAbs ≤ a.natAbs := by rw [Int.natAbs_tdiv]; exact Nat.div_le_self _ _
 have e : IntKind.i64.wrap (a.tdiv 10000) = a.tdiv 10000 := by rw [IntKind.wrap_i64]; omega
 refine a43 (by simp) ?_
 simp (disch := first | assumption | omega) only [go_sem, reduceCtorEq, ↓reduceIte, e]
 exact retC_by (by repeat' (first | exact Drop.refl _ | with_reducible refine Drop.off ?_ (by assumption))) (.refl _) ⟨rfl, rfl⟩
theorem lcut_ok (s : List UInt8) (n : Nat) : Pure Tryz.prog 46 [.str s, .int .i64 n] (.str (s.take n)) := by
 intro σ
 refine a46 (by simp) ?_
 by_cases h : n < s.length
 ·have h' : (n : Int) < s.length := by omega
  have g0 : (0 : Int) ≤ n := by omega
  have g1 : (n : Int) ≤ s.length := by omega
  simp (disch := first | assumption | omega) only [go_sem, reduceCtorEq, Nat.reduceEqDiff, ↓reduceIte, h']
  exact retC_by (by repeat' (first | exact Drop.refl _ | with_reducible refine Drop.off ?_ (by assumption))) (.refl _) ⟨rfl, rfl⟩
 ·have h' : ¬ (n : Int) < s.length := by omega
  rw [List.take_of_length_le (by omega)]
  simp (disch := first | assumption | omega) only [go_sem, reduceCtorEq, Nat.reduceEqDiff, ↓reduceIte, h']
  exact retC_by (by repeat' (first | exact Drop.refl _ | with_reducible refine Drop.off ?_ (by assumption))) (.refl _) ⟨rfl, rfl⟩
end Go.A
namespace Go.A
open Go.Proofs
/-! 44: tabular/token.Errors -/
def c44_0 : ACode := .ops [
 ⟨some 0, none, .q (.mv (.v (.sl .full []))), []⟩]
def c44_1 : ACode := .ops [
 ⟨some 1, none, .q (.bsl 1 [(.v (.str [35, 68, 73, 86, 47, 48, 33])), (.v (.str [35, 78, 85, 77, 33])), (.v (.str [35, 86, 65, 76, 85, 69, 33])), (.v (.str [35, 82, 69, 70, 33])), (.v (.str [35, 78, 47, 65])), (.v (.str [35, 78, 65, 77, 69, 63])), (.v (.str [35, 67, 89, 67, 76, 69, 33]))]), []⟩,
 ⟨some 0, none, .q (.mv (.t 1)), []⟩]
def c44_2 : ACode := .seq c44_1 .ret
def c44_3 : ACode := .seq c44_0 c44_2
@[go_sem] def c44_0_wp := wp_of c44_0.eq_1
@[go_sem] def c44_1_wp := wp_of c44_1.eq_1
@[go_sem] def c44_2_wp := wp_of c44_2.eq_1
@[go_sem] def c44_3_wp := wp_of c44_3.eq_1
def c44 : AFn := ⟨2, [.t 0], c44_3⟩
theorem c44_ok : compF Tryz.prog Tryz.f44 = some c44 := by kernel_rfl
theorem a44 {args : List AV} {σ : ASt} {R : AV → ASt → Prop} (hl : args.length ≤ 2) (h : c44_3.wp Tryz.prog (RetQ [.t 0] R) (init args) σ) : ACalls Tryz.prog 44 args σ R := acalls_of Tryz.func44 c44_ok hl h
end Go.A
namespace Go.A
open Go.Proofs
/-! 54: (*strings.Builder).WriteByte -/
def c54_0 : ACode := .ops [
 ⟨some 4, none, .q (.mv (.v .nili)), []⟩]
def c54_1 : ACode := .ops [
 ⟨some 5, none, .q (.mv (.t 0)), []⟩,
 ⟨some 6, none, .e (.call 64 [(.t 5)]), []⟩]
def c54_2 : ACode := .ops [
 ⟨some 7, none, .q (.mv (.t 0)), []⟩,
 ⟨some 8, none, .q (.mv (.t 0)), []⟩,
 ⟨some 9, none, .q (.nc (.t 8)), []⟩,
 ⟨some 10, none, .q (.fa 1 (.t 9)), []⟩,
 ⟨some 11, none, .q (.ld none (.t 10)), []⟩,
 ⟨some 12, none, .q (.mv (.t 1)), []⟩,
 ⟨some 13, none, .q (.bsl 1 [(.t 12)]), []⟩,
 ⟨some 14, none, .e (.app 5 1 1 [(.int .u8 0)] (.t 11) (.t 13)), []⟩,
 ⟨some 15, none, .q (.nc (.t 7)), []⟩,
 ⟨some 16, none, .q (.fa 1 (.t 15)), []⟩,
 ⟨none, none, .e (.store 1 (.t 16) (.t 14)), []⟩]
def c54_3 : ACode := .ops [
 ⟨some 4, none, .q (.mv (.v .nili)), []⟩]
def c54_4 : ACode := .seq c54_3 .ret
def c54_5 : ACode := .seq c54_2 c54_4
def c54_6 : ACode := .seq c54_1 c54_5
def c54_7 : ACode := .seq c54_0 c54_6
@[go_sem] def c54_0_wp := wp_of c54_0.eq_1
@[go_sem] def c54_1_wp := wp_of c54_1.eq_1
@[go_sem] def c54_2_wp := wp_of c54_2.eq_1
@[go_sem] def c54_3_wp := wp_of c54_3.eq_1
@[go_sem] def c54_4_wp := wp_of c54_4.eq_1
@[go_sem] def c54_5_wp := wp_of c54_5.eq_1
@[go_sem] def c54_6_wp := wp_of c54_6.eq_1
@[go_sem] def c54_7_wp := wp_of c54_7.eq_1
def c54 : AFn := ⟨17, [.t 4], c54_7⟩
theorem c54_ok : compF Tryz.prog Tryz.f54 = some c54 := by kernel_rfl
theorem a54 {args : List AV} {σ : ASt} {R : AV → ASt → Prop} (hl : args.length ≤ 17) (h : c54_7.wp Tryz.prog (RetQ [.t 4] R) (init args) σ) : ACalls Tryz.prog 54 args σ R := acalls_of Tryz.func54 c54_ok hl h
end Go.A
namespace Go.A
def GO (σ0 : ASt) (b : Nat) (cs : SK → List AV) (n s : Nat) (σ : ASt) : Prop := ∃ k, Grown (σ0.set b (some (.obj (cs k)))) σ k n s
theorem GO.cell {σ0 σ : ASt} {b n s : Nat} {k : SK} {cs : SK → List AV} (h : Grown (σ0.set b (some (.obj (cs k)))) σ k n s) : σ b = some (.obj (cs k)) := h.at (ASt.set_same _ _ _)
theorem GO.add {σ0 σ : ASt} {b c n s : Nat} {cs : SK → List AV} {r : Role} (h : GO σ0 b cs n s σ) (hc : σ c = none) : GO (σ0.set c (some r)) b cs n s (σ.set c (some r)) ∧ c ≠ b ∧ σ0 c = none := by
 obtain ⟨k, hg⟩ := h
 have hb := GO.cell hg
 have hcb : c ≠ b := by rintro rfl; rw [hb] at hc; cases hc
 have h0 : σ0 c = none := by
  rcases hg with ⟨_, _, rfl⟩ | ⟨t, T, _, _, rfl⟩
  ·rwa [ASt.set_ne hcb] at hc
  ·obtain ⟨_, _, hc⟩ := set_none hc
   rwa [ASt.set_ne hcb] at hc
 refine ⟨⟨k, ?_⟩, hcb, h0⟩
 rcases hg with ⟨h1, h2, rfl⟩ | ⟨t, T, h1, h2, rfl⟩
 ·exact .inl ⟨h1, h2, set_swap (Ne.symm hcb)⟩
 ·obtain ⟨h3, h4, _⟩ := set_none hc
  obtain ⟨h5, h6, h7⟩ := set_none h2
  refine .inr ⟨t, T, h1, ?_, ?_⟩
  ·rw [ASt.set_ne h5, ASt.set_ne (Ne.symm h3)]; exact h7
  ·rw [set_swap h4, set_swap (Ne.symm hcb)]
theorem GO.off {σ0 σ : ASt} {b c n s : Nat} {cs : SK → List AV} {r : Role} (h : GO (σ0.set c (some r)) b cs n s σ) (hcb : c ≠ b) (hc : σ0 c = none) : ∃ σ', Drop σ σ' ∧ GO σ0 b cs n s σ' := by
 obtain ⟨k, hg⟩ := h
 rcases hg with ⟨h1, h2, rfl⟩ | ⟨t, T, h1, h2, rfl⟩
 ·refine ⟨σ0.set b (some (.obj (cs k))), ?_, ⟨k, .inl ⟨h1, h2, rfl⟩⟩⟩
  rw [set_swap hcb]
  exact Drop.set (by rw [ASt.set_ne hcb]; exact hc)
 ·obtain ⟨h3, h4, h5⟩ := set_none h2
  obtain ⟨h6, h7, h8⟩ := set_none h5
  have e : ((σ0.set c (some r)).set b (some (.obj (cs k)))).set t (some (.tok (n * s))) = ((σ0.set b (some (.obj (cs k)))).set t (some (.tok (n * s)))).set c (some r) := by
   rw [set_swap hcb, set_swap h7]
  refine ⟨(σ0.set b (some (.obj (cs k)))).set t (some (.tok (n * s))), ?_, ⟨k, .inr ⟨t, T, h1, ?_, rfl⟩⟩⟩
  ·rw [e]
   exact Drop.set (by rw [ASt.set_ne h7, ASt.set_ne hcb]; exact hc)
  ·rw [ASt.set_ne h3]; exact h8
theorem GO.at {σ0 σ : ASt} {b n s x : Nat} {cs : SK → List AV} {r : Role} (h : GO σ0 b cs n s σ) (hx : x ≠ b) (h0 : σ0 x = some r) : σ x = some r := by
 obtain ⟨k, hg⟩ := h
 exact hg.at (by rw [ASt.set_ne hx]; exact h0)
inductive Over (τ : ASt) : ASt → Prop
 | refl : Over τ τ
 | set {σ : ASt} (c : Nat) (r : Role) : Over τ σ → σ c = none → Over τ (σ.set c (some r))
theorem Over.drop {τ σ : ASt} (h : Over τ σ) : Drop σ τ := by
 induction h with
 | refl => exact Drop.refl _
 | set c q h hc ih =>
   intro x
   by_cases hx : x = c
   ·subst hx
    rcases ih x with h1 | h1
    ·exact .inr (h1.trans hc)
    ·exact .inr h1
   ·rcases ih x with h1 | h1
    ·exact .inl (by rw [ASt.set_ne hx]; exact h1)
    ·exact .inr h1
def BW (T U : TypeId) (σ0 : ASt) (b : Nat) (l : List UInt8) (σ : ASt) : Prop :=
 (l = [] ∧ σ = σ0.set b (some (.typ T [.pointer none, .slice none 0 0]))) ∨ (l ≠ [] ∧ ∃ k, GrownT U (σ0.set b (some (.obj [.ptr b 0, .sl k (bytesAV l)]))) σ k l.length 1)
theorem BW.over {T U : TypeId} {σ0 σ : ASt} {b : Nat} {l : List UInt8} (h : BW T U σ0 b l σ) (hb : σ0 b = none) : Over σ0 σ := by
 rcases h with ⟨_, rfl⟩ | ⟨_, k, h1 | ⟨g, _, hg, rfl⟩⟩
 ·exact .set b _ .refl hb
 ·obtain ⟨_, _, rfl⟩ := h1
  exact .set b _ .refl hb
 ·exact .set g _ (.set b _ .refl hb) hg
end Go.A
namespace Go.A
open Go.Proofs Go.Lib
abbrev BD := BW 62 5
abbrev GT := GrownT 5
theorem cc_ok {σ0 σ : ASt} {b : Nat} {l : List UInt8} (h : BD σ0 b l σ) : ACalls Tryz.prog 64 [.ptr b 0] σ fun v σ' => v = .tuple [] ∧ ∃ k, GT (σ0.set b (some (.obj [.ptr b 0, .sl k (bytesAV l)]))) σ' k l.length 1 := by
 rcases h with ⟨rfl, rfl⟩ | ⟨h0, k, hg⟩
 ·refine (copyCheck_typ (ASt.set_same _ _ _)).mono ?_
  rintro v σ' ⟨rfl, rfl⟩
  exact ⟨rfl, .full, .inl ⟨rfl, rfl, by rw [ASt.set_set]; rfl⟩⟩
 ·refine (copyCheck_used (hg.at (ASt.set_same _ _ _))).mono ?_
  rintro v σ' ⟨rfl, rfl⟩
  exact ⟨rfl, k, hg⟩
theorem bytesAV_app (l m : List UInt8) : bytesAV l ++ bytesAV m = bytesAV (l ++ m) := by simp [bytesAV]
theorem bytesAV_len (l : List UInt8) : (bytesAV l).length = l.length := by simp [bytesAV]
theorem bytes_leaves (l : List UInt8) : leaves ((bytesAV l).flatMap AV.cells) = true := by unfold bytesAV; exact leaves_map (fun _ => rfl) l
theorem bytes_well (l : List UInt8) : wellSz 1 (bytesAV l) = true := by unfold bytesAV; exact wellSz_map (f := fun c : UInt8 => AV.int .u8 c.toNat) (fun _ => ⟨rfl, rfl⟩) l
theorem appB_by {σ σ0 : ASt} {k k2 : SK} {l m : List UInt8} {ys z : List AV} {K : AV → ASt → Prop} (h : GT σ0 σ k l.length 1) (hy : ys = bytesAV m) (hl : l.length + m.length ≤ 4611686018427)
  (hK : ∀ k' σ', GT σ0 σ' k' (l ++ m).length 1 → K (.sl k' (bytesAV (l ++ m))) σ') : appC 5 1 1 z (.sl k (bytesAV l)) (.sl k2 ys) σ K := by
 subst hy
 refine appCT_by (by rw [bytesAV_len]; exact h) (bytes_well m) (bytes_leaves m) (by simp only [bytesAV_len]; omega) (by simp only [bytesAV_len]; omega) fun k' σ' hg => ?_
 rw [bytesAV_app] at hg ⊢
 rw [bytesAV_len] at hg
 exact hK k' σ' hg
theorem writeByte_ok {σ0 σ : ASt} {b : Nat} {l : List UInt8} (h : BD σ0 b l σ) (c : UInt8) (hl : l.length ≤ 1000000000) :
  ACalls Tryz.prog 54 [.ptr b 0, .int .u8 c.toNat] σ fun v σ' => v = .nili ∧ BD σ0 b (l ++ [c]) σ' := by
 refine a54 (by simp) ?_
 simp (disch := first | assumption | omega) only [go_sem, reduceCtorEq, ↓reduceIte]
 refine (cc_ok h).mono ?_
 rintro v σ1 ⟨rfl, k, hg⟩
 have hb := hg.at (ASt.set_same _ _ _)
 simp (disch := first | assumption | omega) only [go_sem, reduceCtorEq, Nat.reduceEqDiff, ↓reduceIte, Bool.true_and, hb]
 refine appB_by (m := [c]) hg rfl (by simp; omega) fun k' σ' hg' => ?_
 have hb' := hg'.at (ASt.set_same _ _ _)
 simp (disch := first | assumption | omega) only [go_sem, Nat.reduceEqDiff, Nat.reduceAdd, Nat.reduceLeDiff, ↓reduceIte, Bool.true_and, hb']
 exact retC_by (Drop.refl _) (.refl _) ⟨rfl, .inr ⟨by simp, k', hg'.obj⟩⟩
theorem bstring_ok {σ0 σ : ASt} {b : Nat} {l : List UInt8} (h : BD σ0 b l σ) (hl : l.length ≤ 1000000000) : ACalls Tryz.prog 26 [.ptr b 0] σ fun v σ' => v = .str l ∧ σ' = σ := by
 rcases h with ⟨rfl, rfl⟩ | ⟨h0, k, hg⟩
 ·exact bstring_typ (ASt.set_same _ _ _)
 ·have hb := hg.at (ASt.set_same _ _ _)
  rcases hg with ⟨_, h1, _⟩ | ⟨g, rfl, hg, rfl⟩
  ·exact absurd (List.eq_nil_of_length_eq_zero h1) h0
  ·refine bstring_used h0 (by omega) hb (by rw [ASt.set_same, Nat.mul_one])
end Go.A
namespace Go.A
open Go.Proofs
/-! 48: (*strings.Builder).WriteString -/
def c48_0 : ACode := .ops [
 ⟨some 4, none, .q (.mv (.v (.int .i64 0))), []⟩,
 ⟨some 5, none, .q (.mv (.v .nili)), []⟩]
def c48_1 : ACode := .ops [
 ⟨some 6, none, .q (.mv (.t 0)), []⟩,
 ⟨some 7, none, .e (.call 64 [(.t 6)]), []⟩]
def c48_2 : ACode := .ops [
 ⟨some 8, none, .q (.mv (.t 0)), []⟩,
 ⟨some 9, none, .q (.mv (.t 0)), []⟩,
 ⟨some 10, none, .q (.nc (.t 9)), []⟩,
 ⟨some 11, none, .q (.fa 1 (.t 10)), []⟩,
 ⟨some 12, none, .q (.ld none (.t 11)), []⟩,
 ⟨some 13, none, .q (.mv (.t 1)), []⟩,
 ⟨some 14, none, .e (.apps 5 (.t 12) (.t 13)), []⟩,
 ⟨some 15, none, .q (.nc (.t 8)), []⟩,
 ⟨some 16, none, .q (.fa 1 (.t 15)), []⟩,
 ⟨none, none, .e (.store 1 (.t 16) (.t 14)), []⟩]
def c48_3 : ACode := .ops [
 ⟨some 17, none, .q (.mv (.t 1)), []⟩,
 ⟨some 18, none, .q (.lenS (.t 17)), []⟩,
 ⟨some 4, none, .q (.mv (.t 18)), []⟩,
 ⟨some 5, none, .q (.mv (.v .nili)), []⟩]
def c48_4 : ACode := .seq c48_3 .ret
def c48_5 : ACode := .seq c48_2 c48_4
def c48_6 : ACode := .seq c48_1 c48_5
def c48_7 : ACode := .seq c48_0 c48_6
@[go_sem] def c48_0_wp := wp_of c48_0.eq_1
@[go_sem] def c48_1_wp := wp_of c48_1.eq_1
@[go_sem] def c48_2_wp := wp_of c48_2.eq_1
@[go_sem] def c48_3_wp := wp_of c48_3.eq_1
@[go_sem] def c48_4_wp := wp_of c48_4.eq_1
@[go_sem] def c48_5_wp := wp_of c48_5.eq_1
@[go_sem] def c48_6_wp := wp_of c48_6.eq_1
@[go_sem] def c48_7_wp := wp_of c48_7.eq_1
def c48 : AFn := ⟨19, [.t 4, .t 5], c48_7⟩
theorem c48_ok : compF Tryz.prog Tryz.f48 = some c48 := by kernel_rfl
theorem a48 {args : List AV} {σ : ASt} {R : AV → ASt → Prop} (hl : args.length ≤ 19) (h : c48_7.wp Tryz.prog (RetQ [.t 4, .t 5] R) (init args) σ) : ACalls Tryz.prog 48 args σ R := acalls_of Tryz.func48 c48_ok hl h
end Go.A
namespace Go.A
open Go.Proofs Go.Lib
section
variable {T U : TypeId} {σ0 σ : ASt} {b c x : Nat} {l : List UInt8} {r : Role}
theorem BW.role (h : BW T U σ0 b l σ) : σ b ≠ none := by
 rcases h with ⟨_, rfl⟩ | ⟨_, k, hg⟩
 ·rw [ASt.set_same]; simp
 ·rw [hg.at (ASt.set_same _ _ _)]; simp
theorem BW.at (h : BW T U σ0 b l σ) (hx : x ≠ b) (h0 : σ0 x = some r) : σ x = some r := by
 rcases h with ⟨_, rfl⟩ | ⟨_, k, hg⟩
 ·rw [ASt.set_ne hx]; exact h0
 ·exact hg.at (by rw [ASt.set_ne hx]; exact h0)
theorem BW.add (h : BW T U σ0 b l σ) (hc : σ c = none) : BW T U (σ0.set c (some r)) b l (σ.set c (some r)) ∧ c ≠ b ∧ σ0 c = none := by
 have hcb : c ≠ b := by rintro rfl; exact h.role hc
 rcases h with ⟨h0, rfl⟩ | ⟨h0, k, h1 | ⟨t, h1, h2, rfl⟩⟩
 ·rw [ASt.set_ne hcb] at hc
  exact ⟨.inl ⟨h0, set_swap (Ne.symm hcb)⟩, hcb, hc⟩
 ·obtain ⟨h1, h2, rfl⟩ := h1
  rw [ASt.set_ne hcb] at hc
  exact ⟨.inr ⟨h0, k, .inl ⟨h1, h2, set_swap (Ne.symm hcb)⟩⟩, hcb, hc⟩
 ·obtain ⟨h3, h4, hc⟩ := set_none hc
  rw [ASt.set_ne hcb] at hc
  obtain ⟨h5, h6, h7⟩ := set_none h2
  refine ⟨.inr ⟨h0, k, .inr ⟨t, h1, ?_, ?_⟩⟩, hcb, hc⟩
  ·rw [ASt.set_ne h5, ASt.set_ne (Ne.symm h3)]; exact h7
  ·rw [set_swap h4, set_swap (Ne.symm hcb)]
theorem BW.off (h : BW T U (σ0.set c (some r)) b l σ) (hcb : c ≠ b) (hc : σ0 c = none) : ∃ σ', Drop σ σ' ∧ BW T U σ0 b l σ' := by
 rcases h with ⟨h0, rfl⟩ | ⟨h0, k, h1 | ⟨t, h1, h2, rfl⟩⟩
 ·refine ⟨_, ?_, .inl ⟨h0, rfl⟩⟩
  rw [set_swap hcb]
  exact Drop.set (by rw [ASt.set_ne hcb]; exact hc)
 ·obtain ⟨h1, h2, rfl⟩ := h1
  refine ⟨_, ?_, .inr ⟨h0, k, .inl ⟨h1, h2, rfl⟩⟩⟩
  rw [set_swap hcb]
  exact Drop.set (by rw [ASt.set_ne hcb]; exact hc)
 ·obtain ⟨h3, h4, h5⟩ := set_none h2
  obtain ⟨h6, h7, h8⟩ := set_none h5
  refine ⟨(σ0.set b (some (.obj [.ptr b 0, .sl k (bytesAV l)]))).set t (some (.tok (l.length * 1))), ?_, .inr ⟨h0, k, .inr ⟨t, h1, ?_, rfl⟩⟩⟩
  ·rw [set_swap hcb, set_swap h7]
   exact Drop.set (by rw [ASt.set_ne h7, ASt.set_ne hcb]; exact hc)
  ·rw [ASt.set_ne h3]; exact h8
end
theorem appsB_by {σ σ0 : ASt} {k : SK} {l m : List UInt8} {K : AV → ASt → Prop} (h : GT σ0 σ k l.length 1) (hl : l.length + m.length ≤ 4611686018427)
  (hK : ∀ k' σ', GT σ0 σ' k' (l ++ m).length 1 → K (.sl k' (bytesAV (l ++ m))) σ') : appsC 5 (.sl k (bytesAV l)) (.str m) σ K := by
 refine appsCT_by (by rw [bytesAV_len]; exact h) (by rw [bytesAV_len]; omega) fun k' σ' hg => ?_
 rw [bytesAV_app]
 rw [bytesAV_len] at hg
 exact hK k' σ' (by rw [List.length_append]; exact hg)
theorem writes_ok {σ0 σ : ASt} {b : Nat} {l : List UInt8} (h : BD σ0 b l σ) (m : List UInt8) (hl : l.length + m.length ≤ 1000000000) :
  ACalls Tryz.prog 48 [.ptr b 0, .str m] σ fun v σ' => v = .tuple [.int .i64 m.length, .nili] ∧ ((l ++ m = [] ∧ ∃ k, GT (σ0.set b (some (.obj [.ptr b 0, .sl k []]))) σ' k 0 1) ∨ BD σ0 b (l ++ m) σ') := by
 refine a48 (by simp) ?_
 simp (disch := first | assumption | omega) only [go_sem, reduceCtorEq, ↓reduceIte]
 refine (cc_ok h).mono ?_
 rintro v σ1 ⟨rfl, k, hg⟩
 have hb := hg.at (ASt.set_same _ _ _)
 simp (disch := first | assumption | omega) only [go_sem, reduceCtorEq, Nat.reduceEqDiff, ↓reduceIte, hb]
 refine appsB_by hg (by omega) fun k' σ' hg' => ?_
 have hb' := hg'.at (ASt.set_same _ _ _)
 simp (disch := first | assumption | omega) only [go_sem, Nat.reduceEqDiff, Nat.reduceAdd, Nat.reduceLeDiff, ↓reduceIte, Bool.true_and, hb']
 refine retC_by (Drop.refl _) (.refl _) ⟨rfl, ?_⟩
 by_cases he : l ++ m = []
 ·refine .inl ⟨he, k', ?_⟩
  have := hg'.obj (r' := .obj [.ptr b 0, .sl k' (bytesAV (l ++ m))])
  rw [he] at this
  rw [he]
  exact this
 ·exact .inr (.inr ⟨he, k', hg'.obj⟩)
theorem writes1_ok {σ0 σ : ASt} {b : Nat} {l : List UInt8} (h : BD σ0 b l σ) (m : List UInt8) (hm : m ≠ []) (hl : l.length + m.length ≤ 1000000000) :
  ACalls Tryz.prog 48 [.ptr b 0, .str m] σ fun v σ' => v = .tuple [.int .i64 m.length, .nili] ∧ BD σ0 b (l ++ m) σ' :=
 (writes_ok h m hl).mono fun _ _ ⟨h1, h2⟩ => ⟨h1, h2.resolve_left fun h => hm (List.append_eq_nil_iff.1 h.1).2⟩
end Go.A
namespace Go.A
open Go.Proofs
/-! 18: tabular/expr.Signs -/
def c18_0 : ACode := .ops [
 ⟨some 0, none, .q (.mv (.v (.sl .full []))), []⟩]
def c18_1 : ACode := .ops [
 ⟨some 1, none, .q (.bsl 1 [(.v (.str [43])), (.v (.str [45])), (.v (.str [42])), (.v (.str [47])), (.v (.str [94])), (.v (.str [38])), (.v (.str [61])), (.v (.str [60, 62])), (.v (.str [60])), (.v (.str [60, 61])), (.v (.str [62])), (.v (.str [62, 61]))]), []⟩,
 ⟨some 0, none, .q (.mv (.t 1)), []⟩]
def c18_2 : ACode := .seq c18_1 .ret
def c18_3 : ACode := .seq c18_0 c18_2
@[go_sem] def c18_0_wp := wp_of c18_0.eq_1
@[go_sem] def c18_1_wp := wp_of c18_1.eq_1
@[go_sem] def c18_2_wp := wp_of c18_2.eq_1
@[go_sem] def c18_3_wp := wp_of c18_3.eq_1
def c18 : AFn := ⟨2, [.t 0], c18_3⟩
theorem c18_ok : compF Tryz.prog Tryz.f18 = some c18 := by kernel_rfl
theorem a18 {args : List AV} {σ : ASt} {R : AV → ASt → Prop} (hl : args.length ≤ 2) (h : c18_3.wp Tryz.prog (RetQ [.t 0] R) (init args) σ) : ACalls Tryz.prog 18 args σ R := acalls_of Tryz.func18 c18_ok hl h
/-! 51: tabular/expr.truth -/
def c51_0 : ACode := .ops [
 ⟨some 2, none, .q (.mv (.v (.str []))), []⟩]
def c51_1 : ACode := .ops [
 ⟨some 3, none, .q (.mv (.t 0)), []⟩]
def c51_2 : ACode := .ops [
 ⟨some 2, none, .q (.mv (.v (.str [84, 82, 85, 69]))), []⟩]
def c51_3 : ACode := .seq c51_2 .ret
def c51_4 : ACode := .cond (.t 3) c51_3 .skip
def c51_5 : ACode := .seq c51_1 c51_4
def c51_6 : ACode := .ops [
 ⟨some 2, none, .q (.mv (.v (.str [70, 65, 76, 83, 69]))), []⟩]
def c51_7 : ACode := .seq c51_6 .ret
def c51_8 : ACode := .seq c51_5 c51_7
def c51_9 : ACode := .seq c51_0 c51_8
@[go_sem] def c51_0_wp := wp_of c51_0.eq_1
@[go_sem] def c51_1_wp := wp_of c51_1.eq_1
@[go_sem] def c51_2_wp := wp_of c51_2.eq_1
@[go_sem] def c51_3_wp := wp_of c51_3.eq_1
@[go_sem] def c51_4_wp := wp_of c51_4.eq_1
@[go_sem] def c51_5_wp := wp_of c51_5.eq_1
@[go_sem] def c51_6_wp := wp_of c51_6.eq_1
@[go_sem] def c51_7_wp := wp_of c51_7.eq_1
@[go_sem] def c51_8_wp := wp_of c51_8.eq_1
@[go_sem] def c51_9_wp := wp_of c51_9.eq_1
def c51 : AFn := ⟨4, [.t 2], c51_9⟩
theorem c51_ok : compF Tryz.prog Tryz.f51 = some c51 := by kernel_rfl
theorem a51 {args : List AV} {σ : ASt} {R : AV → ASt → Prop} (hl : args.length ≤ 4) (h : c51_9.wp Tryz.prog (RetQ [.t 2] R) (init args) σ) : ACalls Tryz.prog 51 args σ R := acalls_of Tryz.func51 c51_ok hl h
/-! 56: tabular/expr.level -/
def c56_0 : ACode := .ops [
 ⟨some 2, none, .q (.mv (.v (.int .i64 0))), []⟩]
def c56_1 : ACode := .ops [
 ⟨some 4, none, .q (.mv (.t 0)), []⟩,
 ⟨some 5, none, .q (.bin .eql (.t 4) (.v (.int .i64 7))), []⟩,
 ⟨some 6, none, .q (.mv (.t 5)), []⟩,
 ⟨some 7, some (6, false), .q (.mv (.t 0)), []⟩,
 ⟨some 8, some (6, false), .q (.bin .eql (.t 7) (.v (.int .i64 8))), []⟩,
 ⟨some 9, none, .q (.pick (.t 6) (.v (.bool true)) (.t 8)), []⟩,
 ⟨some 3, none, .q (.mv (.t 9)), []⟩]
def c56_2 : ACode := .ops [
 ⟨some 2, none, .q (.mv (.v (.int .i64 6))), []⟩]
def c56_3 : ACode := .seq c56_2 .ret
def c56_4 : ACode := .ops [
 ⟨some 11, none, .q (.mv (.t 0)), []⟩,
 ⟨some 12, none, .q (.bin .eql (.t 11) (.v (.int .i64 9))), []⟩,
 ⟨some 10, none, .q (.mv (.t 12)), []⟩]
def c56_5 : ACode := .ops [
 ⟨some 2, none, .q (.mv (.v (.int .i64 7))), []⟩]
def c56_6 : ACode := .seq c56_5 .ret
def c56_7 : ACode := .ops [
 ⟨some 14, none, .q (.mv (.t 0)), []⟩,
 ⟨some 15, none, .q (.bin .lss (.t 14) (.v (.int .i64 10))), []⟩,
 ⟨some 16, none, .q (.mv (.t 15)), []⟩,
 ⟨some 17, some (16, false), .q (.mv (.t 0)), []⟩,
 ⟨some 18, some (16, false), .q (.bin .geq (.t 17) (.v (.int .i64 22))), []⟩,
 ⟨some 19, none, .q (.pick (.t 16) (.v (.bool true)) (.t 18)), []⟩,
 ⟨some 13, none, .q (.mv (.t 19)), []⟩]
def c56_8 : ACode := .ops [
 ⟨some 2, none, .q (.mv (.v (.int .i64 8))), []⟩]
def c56_9 : ACode := .seq c56_8 .ret
def c56_10 : ACode := .cond (.t 13) c56_9 .skip
def c56_11 : ACode := .seq c56_7 c56_10
def c56_12 : ACode := .cond (.t 10) c56_6 c56_11
def c56_13 : ACode := .seq c56_4 c56_12
def c56_14 : ACode := .cond (.t 3) c56_3 c56_13
def c56_15 : ACode := .seq c56_1 c56_14
def c56_16 : ACode := .block 0 c56_15
def c56_17 : ACode := .ops [
 ⟨some 20, none, .q (.bsl 1 [(.v (.int .i64 3)), (.v (.int .i64 3)), (.v (.int .i64 4)), (.v (.int .i64 4)), (.v (.int .i64 5)), (.v (.int .i64 2)), (.v (.int .i64 1)), (.v (.int .i64 1)), (.v (.int .i64 1)), (.v (.int .i64 1)), (.v (.int .i64 1)), (.v (.int .i64 1))]), []⟩,
 ⟨some 21, none, .q (.mv (.t 0)), []⟩,
 ⟨some 22, none, .q (.bin .sub (.t 21) (.v (.int .i64 10))), []⟩,
 ⟨some 23, none, .q (.ia 1 (.t 20) (.t 22)), []⟩,
 ⟨some 24, none, .q (.ld none (.t 23)), []⟩,
 ⟨some 2, none, .q (.mv (.t 24)), []⟩]
def c56_18 : ACode := .seq c56_17 .ret
def c56_19 : ACode := .seq c56_16 c56_18
def c56_20 : ACode := .seq c56_0 c56_19
@[go_sem] def c56_0_wp := wp_of c56_0.eq_1
@[go_sem] def c56_1_wp := wp_of c56_1.eq_1
@[go_sem] def c56_2_wp := wp_of c56_2.eq_1
@[go_sem] def c56_3_wp := wp_of c56_3.eq_1
@[go_sem] def c56_4_wp := wp_of c56_4.eq_1
@[go_sem] def c56_5_wp := wp_of c56_5.eq_1
@[go_sem] def c56_6_wp := wp_of c56_6.eq_1
@[go_sem] def c56_7_wp := wp_of c56_7.eq_1
@[go_sem] def c56_8_wp := wp_of c56_8.eq_1
@[go_sem] def c56_9_wp := wp_of c56_9.eq_1
@[go_sem] def c56_10_wp := wp_of c56_10.eq_1
@[go_sem] def c56_11_wp := wp_of c56_11.eq_1
@[go_sem] def c56_12_wp := wp_of c56_12.eq_1
@[go_sem] def c56_13_wp := wp_of c56_13.eq_1
@[go_sem] def c56_14_wp := wp_of c56_14.eq_1
@[go_sem] def c56_15_wp := wp_of c56_15.eq_1
@[go_sem] def c56_16_wp := wp_of c56_16.eq_1
@[go_sem] def c56_17_wp := wp_of c56_17.eq_1
@[go_sem] def c56_18_wp := wp_of c56_18.eq_1
@[go_sem] def c56_19_wp := wp_of c56_19.eq_1
@[go_sem] def c56_20_wp := wp_of c56_20.eq_1
def c56 : AFn := ⟨25, [.t 2], c56_20⟩
theorem c56_ok : compF Tryz.prog Tryz.f56 = some c56 := by kernel_rfl
theorem a56 {args : List AV} {σ : ASt} {R : AV → ASt → Prop} (hl : args.length ≤ 25) (h : c56_20.wp Tryz.prog (RetQ [.t 2] R) (init args) σ) : ACalls Tryz.prog 56 args σ R := acalls_of Tryz.func56 c56_ok hl h
end Go.A
namespace Go.A
open Go.Proofs Go.Lib
theorem esigns_ok : Pure Tryz.prog 18 [] (.sl .shr (signL.map AV.str)) := by
 intro σ
 refine a18 (by simp) ?_
 simp (disch := first | assumption | omega) only [go_sem, ↓reduceIte, Bool.true_and]
 exact retC_by (by repeat' (first | exact Drop.refl _ | with_reducible refine Drop.off ?_ (by assumption))) (.sl _ _) ⟨rfl, rfl⟩
theorem tenames_ok : Pure Tryz.prog 44 [] (.sl .shr (errL.map AV.str)) := by
 intro σ
 refine a44 (by simp) ?_
 simp (disch := first | assumption | omega) only [go_sem, ↓reduceIte, Bool.true_and]
 exact retC_by (by repeat' (first | exact Drop.refl _ | with_reducible refine Drop.off ?_ (by assumption))) (.sl _ _) ⟨rfl, rfl⟩
theorem level_ok (op : Int) (h0 : -1000 ≤ op) (h1 : op ≤ 1000) : Pure Tryz.prog 56 [.int .i64 op] (.int .i64 (levelP op)) := by
 intro σ
 obtain ⟨q, hq⟩ : ∃ q, levelP op = q := ⟨_, rfl⟩
 rw [hq]
 unfold levelP at hq
 refine a56 (by simp) ?_
 by_cases h7 : op = 7
 ·rw [if_pos (.inl h7)] at hq
  subst hq
  simp (disch := first | assumption | omega) only [go_sem, reduceCtorEq, Nat.reduceEqDiff, ↓reduceIte, h7]
  exact retC_by (by repeat' (first | exact Drop.refl _ | with_reducible refine Drop.off ?_ (by assumption))) (.refl _) ⟨rfl, rfl⟩
 by_cases h8 : op = 8
 ·rw [if_pos (.inr h8)] at hq
  subst hq
  simp (disch := first | assumption | omega) only [go_sem, reduceCtorEq, Nat.reduceEqDiff, Int.reduceEq, ↓reduceIte, h8]
  exact retC_by (by repeat' (first | exact Drop.refl _ | with_reducible refine Drop.off ?_ (by assumption))) (.refl _) ⟨rfl, rfl⟩
 rw [if_neg (by omega)] at hq
 by_cases h9 : op = 9
 ·rw [if_pos h9] at hq
  subst hq
  simp (disch := first | assumption | omega) only [go_sem, reduceCtorEq, Nat.reduceEqDiff, Int.reduceEq, ↓reduceIte, h9]
  exact retC_by (by repeat' (first | exact Drop.refl _ | with_reducible refine Drop.off ?_ (by assumption))) (.refl _) ⟨rfl, rfl⟩
 rw [if_neg h9] at hq
 by_cases ha : op < 10
 ·rw [if_pos (.inl ha)] at hq
  subst hq
  simp (disch := first | assumption | omega) only [go_sem, reduceCtorEq, Nat.reduceEqDiff, ↓reduceIte, h7, h8, h9, ha]
  exact retC_by (by repeat' (first | exact Drop.refl _ | with_reducible refine Drop.off ?_ (by assumption))) (.refl _) ⟨rfl, rfl⟩
 by_cases hb : 22 ≤ op
 ·rw [if_pos (.inr hb)] at hq
  subst hq
  simp (disch := first | assumption | omega) only [go_sem, reduceCtorEq, Nat.reduceEqDiff, ↓reduceIte, h7, h8, h9, ha, hb]
  exact retC_by (by repeat' (first | exact Drop.refl _ | with_reducible refine Drop.off ?_ (by assumption))) (.refl _) ⟨rfl, rfl⟩
 rw [if_neg (by omega)] at hq
 have hc : op = 10 ∨ op = 11 ∨ op = 12 ∨ op = 13 ∨ op = 14 ∨ op = 15 ∨ op = 16 ∨ op = 17 ∨ op = 18 ∨ op = 19 ∨ op = 20 ∨ op = 21 := by omega
 rcases hc with rfl | rfl | rfl | rfl | rfl | rfl | rfl | rfl | rfl | rfl | rfl | rfl
 all_goals
  simp at hq
  subst hq
  simp (disch := first | assumption | omega) only [go_sem, reduceCtorEq, Nat.reduceEqDiff, Int.reduceLT, Int.reduceLE, Int.reduceEq, ↓reduceIte, Int.reduceSub, Int.reduceToNat, Bool.true_and]
  exact retC_by (by repeat' (first | exact Drop.refl _ | with_reducible refine Drop.off ?_ (by assumption))) (.refl _) ⟨rfl, rfl⟩
theorem truth_ok (b : Bool) : Pure Tryz.prog 51 [.bool b] (.str (truthP b)) := by
 intro σ
 refine a51 (by simp) ?_
 cases b <;> simp (disch := first | assumption | omega) only [go_sem, reduceCtorEq, ↓reduceIte]
 all_goals exact retC_by (by repeat' (first | exact Drop.refl _ | with_reducible refine Drop.off ?_ (by assumption))) (.refl _) ⟨rfl, rfl⟩
end Go.A
namespace Go.A
open Go.Proofs
/-! 11: tabular/expr.Size -/
def c11_0 : ACode := .ops [
 ⟨some 1, none, .e (.box (.t 0)), []⟩,
 ⟨some 2, none, .q (.mv (.v (.int .i64 0))), []⟩]
def c11_1 : ACode := .ops [
 ⟨some 3, none, .q (.mv (.v (.int .i64 1))), []⟩]
def c11_2 : ACode := .ops [
 ⟨some 6, none, .q (.fa 11 (.t 1)), []⟩,
 ⟨some 7, none, .q (.ld none (.t 6)), []⟩,
 ⟨some 8, none, .q (.len (.t 7)), []⟩,
 ⟨some 9, none, .q (.mv (.v (.int .i64 0))), []⟩]
def c11_3 : ACode := .ops [
 ⟨some 10, none, .q (.bin .lss (.t 9) (.t 8)), []⟩]
def c11_4 : ACode := .cond (.t 10) .skip (.exit 0)
def c11_5 : ACode := .ops [
 ⟨some 11, none, .q (.ia 12 (.t 7) (.t 9)), []⟩,
 ⟨some 12, none, .q (.ld (some 12) (.t 11)), []⟩,
 ⟨some 5, none, .e (.alloc [(.int .i64 0), (.int .i64 0), (.str []), (.int .i64 0), (.int .i64 0), (.bool false), (.bool false), (.int .i64 0), (.int .i64 0), (.bool false), (.bool false), (.sl .full [])]), []⟩,
 ⟨none, none, .e (.store 12 (.t 5) (.t 12)), []⟩]
def c11_6 : ACode := .ops [
 ⟨some 13, none, .q (.mv (.t 3)), []⟩,
 ⟨some 14, none, .q (.ld (some 12) (.t 5)), []⟩,
 ⟨some 15, none, .e (.call 11 [(.t 14)]), []⟩,
 ⟨some 16, none, .q (.bin .add (.t 13) (.t 15)), []⟩,
 ⟨some 3, none, .q (.mv (.t 16)), []⟩]
def c11_7 : ACode := .seq c11_5 c11_6
def c11_8 : ACode := .block 1 c11_7
def c11_9 : ACode := .ops [
 ⟨some 17, none, .q (.bin .add (.t 9) (.v (.int .i64 1))), []⟩,
 ⟨some 9, none, .q (.mv (.t 17)), []⟩]
def c11_10 : ACode := .seq c11_8 c11_9
def c11_11 : ACode := .seq c11_4 c11_10
def c11_12 : ACode := .seq c11_3 c11_11
def c11_13 : ACode := .loop c11_12
def c11_14 : ACode := .block 0 c11_13
def c11_15 : ACode := .seq c11_2 c11_14
def c11_16 : ACode := .ops [
 ⟨some 18, none, .q (.mv (.t 3)), []⟩,
 ⟨some 2, none, .q (.mv (.t 18)), []⟩]
def c11_17 : ACode := .seq c11_16 .ret
def c11_18 : ACode := .seq c11_15 c11_17
def c11_19 : ACode := .seq c11_1 c11_18
def c11_20 : ACode := .seq c11_0 c11_19
@[go_sem] def c11_0_wp := wp_of c11_0.eq_1
@[go_sem] def c11_1_wp := wp_of c11_1.eq_1
@[go_sem] def c11_2_wp := wp_of c11_2.eq_1
@[go_sem] def c11_3_wp := wp_of c11_3.eq_1
@[go_sem] def c11_4_wp := wp_of c11_4.eq_1
@[go_sem] def c11_5_wp := wp_of c11_5.eq_1
@[go_sem] def c11_6_wp := wp_of c11_6.eq_1
@[go_sem] def c11_7_wp := wp_of c11_7.eq_1
@[go_sem] def c11_8_wp := wp_of c11_8.eq_1
@[go_sem] def c11_9_wp := wp_of c11_9.eq_1
@[go_sem] def c11_10_wp := wp_of c11_10.eq_1
@[go_sem] def c11_11_wp := wp_of c11_11.eq_1
@[go_sem] def c11_12_wp := wp_of c11_12.eq_1
@[go_sem] def c11_13_wp := wp_of c11_13.eq_1
@[go_sem] def c11_14_wp := wp_of c11_14.eq_1
@[go_sem] def c11_15_wp := wp_of c11_15.eq_1
@[go_sem] def c11_16_wp := wp_of c11_16.eq_1
@[go_sem] def c11_17_wp := wp_of c11_17.eq_1
@[go_sem] def c11_18_wp := wp_of c11_18.eq_1
@[go_sem] def c11_19_wp := wp_of c11_19.eq_1
@[go_sem] def c11_20_wp := wp_of c11_20.eq_1
def c11 : AFn := ⟨19, [.t 2], c11_20⟩
theorem c11_ok : compF Tryz.prog Tryz.f11 = some c11 := by kernel_rfl
theorem a11 {args : List AV} {σ : ASt} {R : AV → ASt → Prop} (hl : args.length ≤ 19) (h : c11_20.wp Tryz.prog (RetQ [.t 2] R) (init args) σ) : ACalls Tryz.prog 11 args σ R := acalls_of Tryz.func11 c11_ok hl h
/-! 13: tabular/expr.Depth -/
def c13_0 : ACode := .ops [
 ⟨some 1, none, .e (.box (.t 0)), []⟩,
 ⟨some 2, none, .q (.mv (.v (.int .i64 0))), []⟩]
def c13_1 : ACode := .ops [
 ⟨some 3, none, .q (.mv (.v (.int .i64 0))), []⟩]
def c13_2 : ACode := .ops [
 ⟨some 6, none, .q (.fa 11 (.t 1)), []⟩,
 ⟨some 7, none, .q (.ld none (.t 6)), []⟩,
 ⟨some 8, none, .q (.len (.t 7)), []⟩,
 ⟨some 9, none, .q (.mv (.v (.int .i64 0))), []⟩]
def c13_3 : ACode := .ops [
 ⟨some 10, none, .q (.bin .lss (.t 9) (.t 8)), []⟩]
def c13_4 : ACode := .cond (.t 10) .skip (.exit 0)
def c13_5 : ACode := .ops [
 ⟨some 11, none, .q (.ia 12 (.t 7) (.t 9)), []⟩,
 ⟨some 12, none, .q (.ld (some 12) (.t 11)), []⟩,
 ⟨some 5, none, .e (.alloc [(.int .i64 0), (.int .i64 0), (.str []), (.int .i64 0), (.int .i64 0), (.bool false), (.bool false), (.int .i64 0), (.int .i64 0), (.bool false), (.bool false), (.sl .full [])]), []⟩,
 ⟨none, none, .e (.store 12 (.t 5) (.t 12)), []⟩]
def c13_6 : ACode := .ops [
 ⟨some 13, none, .q (.mv (.t 3)), []⟩,
 ⟨some 14, none, .q (.ld (some 12) (.t 5)), []⟩,
 ⟨some 15, none, .e (.call 13 [(.t 14)]), []⟩,
 ⟨some 16, none, .q (.mnx true (.t 13) (.t 15)), []⟩,
 ⟨some 3, none, .q (.mv (.t 16)), []⟩]
def c13_7 : ACode := .seq c13_5 c13_6
def c13_8 : ACode := .block 1 c13_7
def c13_9 : ACode := .ops [
 ⟨some 17, none, .q (.bin .add (.t 9) (.v (.int .i64 1))), []⟩,
 ⟨some 9, none, .q (.mv (.t 17)), []⟩]
def c13_10 : ACode := .seq c13_8 c13_9
def c13_11 : ACode := .seq c13_4 c13_10
def c13_12 : ACode := .seq c13_3 c13_11
def c13_13 : ACode := .loop c13_12
def c13_14 : ACode := .block 0 c13_13
def c13_15 : ACode := .seq c13_2 c13_14
def c13_16 : ACode := .ops [
 ⟨some 18, none, .q (.mv (.t 3)), []⟩,
 ⟨some 19, none, .q (.bin .add (.t 18) (.v (.int .i64 1))), []⟩,
 ⟨some 2, none, .q (.mv (.t 19)), []⟩]
def c13_17 : ACode := .seq c13_16 .ret
def c13_18 : ACode := .seq c13_15 c13_17
def c13_19 : ACode := .seq c13_1 c13_18
def c13_20 : ACode := .seq c13_0 c13_19
@[go_sem] def c13_0_wp := wp_of c13_0.eq_1
@[go_sem] def c13_1_wp := wp_of c13_1.eq_1
@[go_sem] def c13_2_wp := wp_of c13_2.eq_1
@[go_sem] def c13_3_wp := wp_of c13_3.eq_1
@[go_sem] def c13_4_wp := wp_of c13_4.eq_1
@[go_sem] def c13_5_wp := wp_of c13_5.eq_1
@[go_sem] def c13_6_wp := wp_of c13_6.eq_1
@[go_sem] def c13_7_wp := wp_of c13_7.eq_1
@[go_sem] def c13_8_wp := wp_of c13_8.eq_1
@[go_sem] def c13_9_wp := wp_of c13_9.eq_1
@[go_sem] def c13_10_wp := wp_of c13_10.eq_1
@[go_sem] def c13_11_wp := wp_of c13_11.eq_1
@[go_sem] def c13_12_wp := wp_of c13_12.eq_1
@[go_sem] def c13_13_wp := wp_of c13_13.eq_1
@[go_sem] def c13_14_wp := wp_of c13_14.eq_1
@[go_sem] def c13_15_wp := wp_of c13_15.eq_1
@[go_sem] def c13_16_wp := wp_of c13_16.eq_1
@[go_sem] def c13_17_wp := wp_of c13_17.eq_1
@[go_sem] def c13_18_wp := wp_of c13_18.eq_1
@[go_sem] def c13_19_wp := wp_of c13_19.eq_1
@[go_sem] def c13_20_wp := wp_of c13_20.eq_1
def c13 : AFn := ⟨20, [.t 2], c13_20⟩
theorem c13_ok : compF Tryz.prog Tryz.f13 = some c13 := by kernel_rfl
theorem a13 {args : List AV} {σ : ASt} {R : AV → ASt → Prop} (hl : args.length ≤ 20) (h : c13_20.wp Tryz.prog (RetQ [.t 2] R) (init args) σ) : ACalls Tryz.prog 13 args σ R := acalls_of Tryz.func13 c13_ok hl h
/-! 23: tabular/expr.Failure -/
def c23_0 : ACode := .ops [
 ⟨some 1, none, .e (.box (.t 0)), []⟩,
 ⟨some 2, none, .q (.mv (.v (.str []))), []⟩]
def c23_1 : ACode := .ops [
 ⟨some 4, none, .q (.fa 1 (.t 1)), []⟩,
 ⟨some 5, none, .q (.ld none (.t 4)), []⟩,
 ⟨some 6, none, .e (.call 43 [(.t 5)]), []⟩,
 ⟨some 3, none, .q (.mv (.t 6)), []⟩]
def c23_2 : ACode := .ops [
 ⟨some 7, none, .q (.fa 0 (.t 1)), []⟩,
 ⟨some 8, none, .q (.ld none (.t 7)), []⟩,
 ⟨some 9, none, .q (.bin .neq (.t 8) (.v (.int .i64 4))), []⟩,
 ⟨some 10, none, .q (.mv (.t 9)), []⟩,
 ⟨some 11, some (10, false), .q (.mv (.t 3)), []⟩,
 ⟨some 12, some (10, false), .q (.bin .lss (.t 11) (.v (.int .i64 1))), []⟩,
 ⟨some 13, none, .q (.pick (.t 10) (.v (.bool true)) (.t 12)), []⟩,
 ⟨some 14, none, .q (.mv (.t 13)), []⟩,
 ⟨some 15, some (14, false), .q (.mv (.t 3)), []⟩,
 ⟨some 16, some (14, false), .e (.call 44 []), []⟩,
 ⟨some 17, some (14, false), .q (.len (.t 16)), []⟩,
 ⟨some 18, some (14, false), .q (.bin .gtr (.t 15) (.t 17)), []⟩,
 ⟨some 19, none, .q (.pick (.t 14) (.v (.bool true)) (.t 18)), []⟩]
def c23_3 : ACode := .ops [
 ⟨some 2, none, .q (.mv (.v (.str []))), []⟩]
def c23_4 : ACode := .seq c23_3 .ret
def c23_5 : ACode := .cond (.t 19) c23_4 .skip
def c23_6 : ACode := .seq c23_2 c23_5
def c23_7 : ACode := .ops [
 ⟨some 20, none, .e (.call 44 []), []⟩,
 ⟨some 21, none, .q (.mv (.t 3)), []⟩,
 ⟨some 22, none, .q (.bin .sub (.t 21) (.v (.int .i64 1))), []⟩,
 ⟨some 23, none, .q (.ia 1 (.t 20) (.t 22)), []⟩,
 ⟨some 24, none, .q (.ld none (.t 23)), []⟩,
 ⟨some 2, none, .q (.mv (.t 24)), []⟩]
def c23_8 : ACode := .seq c23_7 .ret
def c23_9 : ACode := .seq c23_6 c23_8
def c23_10 : ACode := .seq c23_1 c23_9
def c23_11 : ACode := .seq c23_0 c23_10
@[go_sem] def c23_0_wp := wp_of c23_0.eq_1
@[go_sem] def c23_1_wp := wp_of c23_1.eq_1
@[go_sem] def c23_2_wp := wp_of c23_2.eq_1
@[go_sem] def c23_3_wp := wp_of c23_3.eq_1
@[go_sem] def c23_4_wp := wp_of c23_4.eq_1
@[go_sem] def c23_5_wp := wp_of c23_5.eq_1
@[go_sem] def c23_6_wp := wp_of c23_6.eq_1
@[go_sem] def c23_7_wp := wp_of c23_7.eq_1
@[go_sem] def c23_8_wp := wp_of c23_8.eq_1
@[go_sem] def c23_9_wp := wp_of c23_9.eq_1
@[go_sem] def c23_10_wp := wp_of c23_10.eq_1
@[go_sem] def c23_11_wp := wp_of c23_11.eq_1
def c23 : AFn := ⟨25, [.t 2], c23_11⟩
theorem c23_ok : compF Tryz.prog Tryz.f23 = some c23 := by kernel_rfl
theorem a23 {args : List AV} {σ : ASt} {R : AV → ASt → Prop} (hl : args.length ≤ 25) (h : c23_11.wp Tryz.prog (RetQ [.t 2] R) (init args) σ) : ACalls Tryz.prog 23 args σ R := acalls_of Tryz.func23 c23_ok hl h
end Go.A
