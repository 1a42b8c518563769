/- Part 5 of what ParseBack leans on: Shelf Wz Wa CodeGa Ga CodeGb Gb CodeGc Gc CodeGd Gd CodeH Tg Za Zu Gp Wc Ea. -/
import Derived.Shelf.Strings.Builder1
import Derived.Shelf.Strings.Builder2
import Derived.Shelf.Strings.Trim
import Derived.Shelf.Small.Utf8
import Derived.Shelf.Small.Strs
import Derived.Shelf.Small.Wraps
import Derived.Shelf.Strings.BuilderF
import Derived.Shelf.Strings.BuilderK
import Derived.Shelf.Strings.BuilderRune
import Derived.Shelf.Utf8.AppendRunePlain
import Derived.Shelf.Utf8.RuneCount
import Derived.Shelf.Strings.Builder2Cap
import Derived.Shelf.Strconv.Itoa0
import Derived.Shelf.Strconv.Itoa1
import Derived.Shelf.LaysM
import Derived.Shelf.Strconv.Itoa2
import Derived.Shelf.Strconv.Itoa3
import Derived.Shelf.Strings.Search1
import Derived.Shelf.Strings.Search2
import Derived.Shelf.Strings.Search3
import Derived.Shelf.Strings.Cut
import Derived.Shelf.Strings.Count
import Derived.Shelf.Strings.Shaped
import Derived.Shelf.Strings.Prefix
import Derived.Shelf.Strings.Split
import Derived.Shelf.Strings.Replace
import Derived.Shelf.Strings.SplitShaped
import Derived.Shelf.Unicode.Decode
import Derived.Shelf.Strings.Runes
import Derived.Shelf.Strings.RuneCount
import Derived.Shelf.Strings.AsciiSet
import Derived.Shelf.Unicode.DecodeSlow
import Derived.Shelf.Unicode.DecodeAny
import Derived.Shelf.Unicode.DecodeLast
import Derived.Shelf.Strings.BuilderCap
import Derived.Test.YtaonfjelncbhjaaGreatDoorProg
import Derived.Lib.ItoaMem
import Derived.KernelRfl
import Derived.Lib.MapLaws
import Derived.Lib.RuneCount
import Derived.Lib.LaidU8
import Derived.Lib.ItoaNum
import Derived.Test.YtaonfjelncbhjaaGreatDoorZParseBackd
set_option linter.defProp false
set_option linter.unusedSimpArgs false
set_option linter.unusedVariables false
set_option maxRecDepth 100000
namespace Go.Proofs
open Go.Shelf
def Tryz.lays169_ren : Go.Shelf.Ren := ⟨fun | 169 => 17 | n => n, fun | 70 => 52 | 9 => 9 | 0 => 0 | 72 => 55 | 37 => 53 | 127 => 83 | 3 => 3 | 5 => 5 | n => n, fun | n => n⟩
theorem Tryz.lays169 : Go.Proofs.Lays.n169 Tryz.prog Tryz.lays169_ren := {
 mixed := by kernel_rfl
 f169 := Tryz.func17.trans (congrArg some (by kernel_rfl))
 t0 := Tryz.underlying0
 a0 := Tryz.isAgg0
 z0 := Tryz.sizeOf0
 v0 := Tryz.zeroValue0
 t3 := Tryz.underlying3
 a3 := Tryz.isAgg3
 z3 := Tryz.sizeOf3
 v3 := Tryz.zeroValue3
 t9 := Tryz.underlying9
 a9 := Tryz.isAgg9
 z9 := Tryz.sizeOf9
 v9 := Tryz.zeroValue9
 t37 := Tryz.underlying53
 a37 := Tryz.isAgg53
 z37 := Tryz.sizeOf53
 v37 := Tryz.zeroValue53
 t70 := Tryz.underlying52
 a70 := Tryz.isAgg52
 z70 := Tryz.sizeOf52
 v70 := Tryz.zeroValue52
 t72 := Tryz.underlying55
 a72 := Tryz.isAgg55
 z72 := Tryz.sizeOf55
 v72 := Tryz.zeroValue55
 t127 := Tryz.underlying83
 a127 := Tryz.isAgg83
 z127 := Tryz.sizeOf83
 v127 := Tryz.zeroValue83 }
theorem Tryz.Builder_Extra_169 : Builder.Extra Tryz.prog Tryz.lays169_ren := {
 sizeBuilder := by kernel_rfl
 liesBuilder := by kernel_rfl
 t5 := Tryz.underlying5
 a5 := Tryz.isAgg5
 z5 := Tryz.sizeOf5
 v5 := Tryz.zeroValue5
 infoByte := by kernel_rfl
 cellsByte := by kernel_rfl
 sizeByte := by kernel_rfl
 neB5 := by decide }
def Tryz.lays162_ren : Go.Shelf.Ren := ⟨fun | 162 => 53 | 232 => 75 | 227 => 76 | 234 => 77 | 236 => 78 | 228 => 97 | 271 => 98 | 151 => 99 | 120 => 116 | 197 => 61 | 152 => 117 | 260 => 82 | 137 => 130 | 119 => 131 | 224 => 125 | 225 => 124 | 217 => 123 | 266 => 133 | n => n, fun | 9 => 9 | 4 => 4 | 3 => 3 | 5 => 5 | 117 => 114 | 116 => 113 | 0 => 0 | 124 => 117 | 21 => 21 | 105 => 89 | 46 => 138 | 119 => 137 | 139 => 141 | 138 => 140 | n => n, fun | 3 => 1 | 4 => 2 | n => n⟩
theorem Tryz.lays162 : Go.Proofs.Lays.n162 Tryz.prog Tryz.lays162_ren := {
 mixed := by kernel_rfl
 f119 := Tryz.func131.trans (congrArg some (by kernel_rfl))
 f120 := Tryz.func116.trans (congrArg some (by kernel_rfl))
 f137 := Tryz.func130.trans (congrArg some (by kernel_rfl))
 f151 := Tryz.func99.trans (congrArg some (by kernel_rfl))
 f152 := Tryz.func117.trans (congrArg some (by kernel_rfl))
 f162 := Tryz.func53.trans (congrArg some (by kernel_rfl))
 f197 := Tryz.func61.trans (congrArg some (by kernel_rfl))
 f217 := Tryz.func123.trans (congrArg some (by kernel_rfl))
 f224 := Tryz.func125.trans (congrArg some (by kernel_rfl))
 f225 := Tryz.func124.trans (congrArg some (by kernel_rfl))
 f227 := Tryz.func76.trans (congrArg some (by kernel_rfl))
 f228 := Tryz.func97.trans (congrArg some (by kernel_rfl))
 f232 := Tryz.func75.trans (congrArg some (by kernel_rfl))
 f234 := Tryz.func77.trans (congrArg some (by kernel_rfl))
 f236 := Tryz.func78.trans (congrArg some (by kernel_rfl))
 f260 := Tryz.func82.trans (congrArg some (by kernel_rfl))
 f266 := Tryz.func133.trans (congrArg some (by kernel_rfl))
 f271 := Tryz.func98.trans (congrArg some (by kernel_rfl))
 t0 := Tryz.underlying0
 a0 := Tryz.isAgg0
 z0 := Tryz.sizeOf0
 v0 := Tryz.zeroValue0
 t3 := Tryz.underlying3
 a3 := Tryz.isAgg3
 z3 := Tryz.sizeOf3
 v3 := Tryz.zeroValue3
 t4 := Tryz.underlying4
 a4 := Tryz.isAgg4
 z4 := Tryz.sizeOf4
 v4 := Tryz.zeroValue4
 t5 := Tryz.underlying5
 a5 := Tryz.isAgg5
 z5 := Tryz.sizeOf5
 v5 := Tryz.zeroValue5
 t9 := Tryz.underlying9
 a9 := Tryz.isAgg9
 z9 := Tryz.sizeOf9
 v9 := Tryz.zeroValue9
 t21 := Tryz.underlying21
 a21 := Tryz.isAgg21
 z21 := Tryz.sizeOf21
 v21 := Tryz.zeroValue21
 t46 := Tryz.underlying138
 a46 := Tryz.isAgg138
 z46 := Tryz.sizeOf138
 v46 := Tryz.zeroValue138
 t105 := Tryz.underlying89
 a105 := Tryz.isAgg89
 z105 := Tryz.sizeOf89
 v105 := Tryz.zeroValue89
 t116 := Tryz.underlying113
 a116 := Tryz.isAgg113
 z116 := Tryz.sizeOf113
 t117 := Tryz.underlying114
 a117 := Tryz.isAgg114
 z117 := Tryz.sizeOf114
 v117 := Tryz.zeroValue114
 t119 := Tryz.underlying137
 a119 := Tryz.isAgg137
 z119 := Tryz.sizeOf137
 t124 := Tryz.underlying117
 a124 := Tryz.isAgg117
 z124 := Tryz.sizeOf117
 v124 := Tryz.zeroValue117
 t138 := Tryz.underlying140
 a138 := Tryz.isAgg140
 z138 := Tryz.sizeOf140
 v138 := Tryz.zeroValue140
 t139 := Tryz.underlying141
 a139 := Tryz.isAgg141
 z139 := Tryz.sizeOf141
 v139 := Tryz.zeroValue141
 g3 := by kernel_rfl
 g4 := by kernel_rfl }
open Go.RowKit in
theorem Tryz.strings_TrimRight_one (s : ByteArray) (c : UInt8) (hc : c.toNat < 128) (w : World) (hs : s.size ≤ 9223372036854775807) :
  Calls Tryz.prog 53 #[.string s, .string ⟨#[c]⟩] w fun e w' => e = .returned (.string ⟨(Lib.trimRightB s.data.toList c).toArray⟩) ∧ w' = w := Any.strings_TrimRight_one Tryz.lays162 s c hc w hs
def Tryz.lays118_ren : Go.Shelf.Ren := ⟨fun | 118 => 67 | n => n, fun | 21 => 21 | 3 => 3 | 4 => 4 | n => n, fun | n => n⟩
theorem Tryz.lays118 : Go.Proofs.Lays.n118 Tryz.prog Tryz.lays118_ren := {
 mixed := by kernel_rfl
 f118 := Tryz.func67.trans (congrArg some (by kernel_rfl))
 t3 := Tryz.underlying3
 a3 := Tryz.isAgg3
 z3 := Tryz.sizeOf3
 v3 := Tryz.zeroValue3
 t4 := Tryz.underlying4
 a4 := Tryz.isAgg4
 z4 := Tryz.sizeOf4
 v4 := Tryz.zeroValue4
 t21 := Tryz.underlying21
 a21 := Tryz.isAgg21
 z21 := Tryz.sizeOf21
 v21 := Tryz.zeroValue21 }
theorem Tryz.utf8_RuneLen (r : Int) (w : World) :
  Calls Tryz.prog 67 #[.int .i32 r] w fun e w' => e = .returned (.int .i64 (Lib.runeLen r)) ∧ w' = w := Any.utf8_RuneLen Tryz.lays118 r w
def Tryz.lays210_ren : Go.Shelf.Ren := ⟨fun | 210 => 127 | 206 => 87 | n => n, fun | 9 => 9 | 4 => 4 | 3 => 3 | n => n, fun | n => n⟩
def Tryz.lays103_ren : Go.Shelf.Ren := ⟨fun | 103 => 107 | 210 => 127 | 206 => 87 | n => n, fun | 9 => 9 | 4 => 4 | 24 => 145 | 3 => 3 | n => n, fun | n => n⟩
theorem Tryz.lays103 : Go.Proofs.Lays.n103 Tryz.prog Tryz.lays103_ren := {
 mixed := by kernel_rfl
 f103 := Tryz.func107.trans (congrArg some (by kernel_rfl))
 f206 := Tryz.func87.trans (congrArg some (by kernel_rfl))
 f210 := Tryz.func127.trans (congrArg some (by kernel_rfl))
 t3 := Tryz.underlying3
 a3 := Tryz.isAgg3
 z3 := Tryz.sizeOf3
 v3 := Tryz.zeroValue3
 t4 := Tryz.underlying4
 a4 := Tryz.isAgg4
 z4 := Tryz.sizeOf4
 v4 := Tryz.zeroValue4
 t9 := Tryz.underlying9
 a9 := Tryz.isAgg9
 z9 := Tryz.sizeOf9
 v9 := Tryz.zeroValue9
 t24 := Tryz.underlying145
 a24 := Tryz.isAgg145
 z24 := Tryz.sizeOf145
 v24 := Tryz.zeroValue145 }
open Go.RowKit in
theorem Tryz.strings_CutPrefix (s p : ByteArray) (w : World) :
  Calls Tryz.prog 107 #[.string s, .string p] w fun e w' => e = .returned (.tuple #[.string ⟨(Lib.trimPrefix s.data.toList p.data.toList).toArray⟩, .bool (Lib.hasPrefix s.data.toList p.data.toList)]) ∧ w' = w := Any.strings_CutPrefix Tryz.lays103 s p w
def Tryz.lays195_ren : Go.Shelf.Ren := ⟨fun | 195 => 45 | n => n, fun | 9 => 9 | 3 => 3 | 0 => 0 | 4 => 4 | n => n, fun | n => n⟩
theorem Tryz.lays195 : Go.Proofs.Lays.n195 Tryz.prog Tryz.lays195_ren := {
 mixed := by kernel_rfl
 f195 := Tryz.func45.trans (congrArg some (by kernel_rfl))
 t0 := Tryz.underlying0
 a0 := Tryz.isAgg0
 z0 := Tryz.sizeOf0
 v0 := Tryz.zeroValue0
 t3 := Tryz.underlying3
 a3 := Tryz.isAgg3
 z3 := Tryz.sizeOf3
 v3 := Tryz.zeroValue3
 t4 := Tryz.underlying4
 a4 := Tryz.isAgg4
 z4 := Tryz.sizeOf4
 v4 := Tryz.zeroValue4
 t9 := Tryz.underlying9
 a9 := Tryz.isAgg9
 z9 := Tryz.sizeOf9
 v9 := Tryz.zeroValue9 }
open Go.RowKit in
theorem Tryz.utf8_RuneCountInString (s : ByteArray) (w : World) (hs : s.size < 9223372036854775807) :
  Calls Tryz.prog 45 #[.string s] w fun e w' => e = .returned (.int .i64 (Lib.runeCount s)) ∧ ∃ pos, w' = w.iter s pos := Any.utf8_RuneCountInString Tryz.lays195 s w hs
def Tryz.lays283_ren : Go.Shelf.Ren := ⟨fun | 283 => 93 | n => n, fun | 3 => 3 | 9 => 9 | 4 => 4 | n => n, fun | n => n⟩
theorem Tryz.lays283 : Go.Proofs.Lays.n283 Tryz.prog Tryz.lays283_ren := {
 mixed := by kernel_rfl
 f283 := Tryz.func93.trans (congrArg some (by kernel_rfl))
 t3 := Tryz.underlying3
 a3 := Tryz.isAgg3
 z3 := Tryz.sizeOf3
 v3 := Tryz.zeroValue3
 t4 := Tryz.underlying4
 a4 := Tryz.isAgg4
 z4 := Tryz.sizeOf4
 v4 := Tryz.zeroValue4
 t9 := Tryz.underlying9
 a9 := Tryz.isAgg9
 z9 := Tryz.sizeOf9
 v9 := Tryz.zeroValue9 }
open Go.Lib in
theorem Tryz.internal_strconv_small (i : Nat) (h : i < 100) (w : World) :
  Calls Tryz.prog 93 #[.int .i64 i] w fun e w' => e = .returned (.string ⟨(Lib.decDigits i).toArray⟩) ∧ w' = w := Any.internal_strconv_small Tryz.lays283 i h w
def Tryz.laysM284_ren : Go.Shelf.Ren := ⟨fun | 284 => 94 | 129 => 112 | 317 => 111 | 318 => 113 | n => n, fun | 53 => 95 | 3 => 3 | 212 => 151 | 0 => 0 | 4 => 4 | 46 => 138 | 5 => 5 | 9 => 9 | n => n, fun | 17 => 3 | n => n⟩
theorem Tryz.laysM284 : Go.Proofs.LaysM.n284 Tryz.prog Tryz.laysM284_ren := {
 mixed := by kernel_rfl
 f129 := Tryz.func112.trans (congrArg some (by kernel_rfl))
 f284 := Tryz.func94.trans (congrArg some (by kernel_rfl))
 f317 := Tryz.func111.trans (congrArg some (by kernel_rfl))
 f318 := Tryz.func113.trans (congrArg some (by kernel_rfl))
 t0 := Tryz.underlying0
 a0 := Tryz.isAgg0
 z0 := Tryz.sizeOf0
 v0 := Tryz.zeroValue0
 t3 := Tryz.underlying3
 a3 := Tryz.isAgg3
 z3 := Tryz.sizeOf3
 v3 := Tryz.zeroValue3
 t4 := Tryz.underlying4
 a4 := Tryz.isAgg4
 z4 := Tryz.sizeOf4
 v4 := Tryz.zeroValue4
 t5 := Tryz.underlying5
 a5 := Tryz.isAgg5
 z5 := Tryz.sizeOf5
 v5 := Tryz.zeroValue5
 t9 := Tryz.underlying9
 a9 := Tryz.isAgg9
 z9 := Tryz.sizeOf9
 v9 := Tryz.zeroValue9
 t46 := Tryz.underlying138
 a46 := Tryz.isAgg138
 z46 := Tryz.sizeOf138
 v46 := Tryz.zeroValue138
 t53 := Tryz.underlying95
 a53 := Tryz.isAgg95
 z53 := Tryz.sizeOf95
 v53 := Tryz.zeroValue95
 t212 := Tryz.underlying151
 a212 := Tryz.isAgg151
 z212 := Tryz.sizeOf151
 v212 := Tryz.zeroValue151
 g17 := by kernel_rfl
 i0 := by kernel_rfl
 i3 := by kernel_rfl
 i4 := by kernel_rfl
 i5 := by kernel_rfl
 i9 := by kernel_rfl
 i46 := by kernel_rfl
 i53 := by kernel_rfl
 i212 := by kernel_rfl
 m17 := by kernel_rfl }
open Go.Lib in
theorem Tryz.internal_strconv_numDigits (u : Nat) (h1 : 1 ≤ u) (h2 : u < 18446744073709551616) (w : World) (htab : Lib.TabIs Tryz.prog w "internal/strconv.uint64pow10" .u64 Lib.pow10Tab) :
  Calls Tryz.prog 94 #[.int .u64 u] w fun e w' => e = .returned (.int .i64 (Lib.nDigits u)) ∧ w' = w := Any.internal_strconv_numDigits Tryz.laysM284 u h1 h2 w htab
def Tryz.lays285_ren : Go.Shelf.Ren := ⟨fun | 285 => 95 | n => n, fun | 37 => 53 | 53 => 95 | 3 => 3 | 4 => 4 | 51 => 144 | 9 => 9 | 5 => 5 | 0 => 0 | n => n, fun | n => n⟩
theorem Tryz.lays285 : Go.Proofs.Lays.n285 Tryz.prog Tryz.lays285_ren := {
 mixed := by kernel_rfl
 f285 := Tryz.func95.trans (congrArg some (by kernel_rfl))
 t0 := Tryz.underlying0
 a0 := Tryz.isAgg0
 z0 := Tryz.sizeOf0
 v0 := Tryz.zeroValue0
 t3 := Tryz.underlying3
 a3 := Tryz.isAgg3
 z3 := Tryz.sizeOf3
 v3 := Tryz.zeroValue3
 t4 := Tryz.underlying4
 a4 := Tryz.isAgg4
 z4 := Tryz.sizeOf4
 v4 := Tryz.zeroValue4
 t5 := Tryz.underlying5
 a5 := Tryz.isAgg5
 z5 := Tryz.sizeOf5
 v5 := Tryz.zeroValue5
 t9 := Tryz.underlying9
 a9 := Tryz.isAgg9
 z9 := Tryz.sizeOf9
 v9 := Tryz.zeroValue9
 t37 := Tryz.underlying53
 a37 := Tryz.isAgg53
 z37 := Tryz.sizeOf53
 v37 := Tryz.zeroValue53
 t51 := Tryz.underlying144
 a51 := Tryz.isAgg144
 z51 := Tryz.sizeOf144
 v51 := Tryz.zeroValue144
 t53 := Tryz.underlying95
 a53 := Tryz.isAgg95
 z53 := Tryz.sizeOf95
 v53 := Tryz.zeroValue95 }
open Go.RowKit Go.Sort Go.Lib in
theorem Tryz.internal_strconv_formatBase10 (blk off cap : Nat) (u : Nat) (d : Array UInt8) (w : World) (hH : Holds (fun (b : UInt8) => Value.int .u8 (b.toNat : Int)) w blk off d) (hu : u < 10 ^ d.size) (hu64 : u < 18446744073709551616) (hsz : d.size < 4611686018427387904) :
  Calls Tryz.prog 95 #[.slice (some ⟨blk, off, none⟩) d.size cap, .int .u64 u] w fun e w' =>
   e = .returned (.tuple #[]) ∧ ∃ (n v' : Nat) (dk : Array UInt8), w' = (putRow (fun (b : UInt8) => Value.int .u8 (b.toNat : Int)) w blk off dk).drewN n ∧ FmtInv d.size u 0 v' dk := Any.internal_strconv_formatBase10 Tryz.lays285 blk off cap u d w hH hu hu64 hsz
def Tryz.laysM246_ren : Go.Shelf.Ren := ⟨fun | 246 => 102 | 283 => 93 | 284 => 94 | 285 => 95 | 286 => 96 | 129 => 112 | 317 => 111 | 318 => 113 | 319 => 114 | 320 => 115 | 337 => 128 | 338 => 129 | n => n, fun | 2 => 2 | 3 => 3 | 9 => 9 | 4 => 4 | 171 => 130 | 0 => 0 | 53 => 95 | 37 => 53 | 5 => 5 | 173 => 133 | 212 => 151 | 51 => 144 | 20 => 20 | 213 => 152 | 46 => 138 | 232 => 164 | 233 => 165 | n => n, fun | 17 => 3 | 18 => 5 | 19 => 6 | n => n⟩
def Tryz.laysM243_ren : Go.Shelf.Ren := ⟨fun | 243 => 80 | 246 => 102 | 283 => 93 | 284 => 94 | 285 => 95 | 286 => 96 | 129 => 112 | 317 => 111 | 318 => 113 | 319 => 114 | 320 => 115 | 337 => 128 | 338 => 129 | n => n, fun | 3 => 3 | 9 => 9 | 2 => 2 | 4 => 4 | 171 => 130 | 0 => 0 | 53 => 95 | 37 => 53 | 5 => 5 | 173 => 133 | 212 => 151 | 51 => 144 | 20 => 20 | 213 => 152 | 46 => 138 | 232 => 164 | 233 => 165 | n => n, fun | 17 => 3 | 18 => 5 | 19 => 6 | n => n⟩
def Tryz.laysM171_ren : Go.Shelf.Ren := ⟨fun | 171 => 59 | 243 => 80 | 246 => 102 | 283 => 93 | 284 => 94 | 285 => 95 | 286 => 96 | 129 => 112 | 317 => 111 | 318 => 113 | 319 => 114 | 320 => 115 | 337 => 128 | 338 => 129 | n => n, fun | 3 => 3 | 9 => 9 | 2 => 2 | 4 => 4 | 171 => 130 | 0 => 0 | 53 => 95 | 37 => 53 | 5 => 5 | 173 => 133 | 212 => 151 | 51 => 144 | 20 => 20 | 213 => 152 | 46 => 138 | 232 => 164 | 233 => 165 | n => n, fun | 17 => 3 | 18 => 5 | 19 => 6 | n => n⟩
theorem Tryz.laysM171 : Go.Proofs.LaysM.n171 Tryz.prog Tryz.laysM171_ren := {
 mixed := by kernel_rfl
 f129 := Tryz.func112.trans (congrArg some (by kernel_rfl))
 f171 := Tryz.func59.trans (congrArg some (by kernel_rfl))
 f243 := Tryz.func80.trans (congrArg some (by kernel_rfl))
 f246 := Tryz.func102.trans (congrArg some (by kernel_rfl))
 f283 := Tryz.func93.trans (congrArg some (by kernel_rfl))
 f284 := Tryz.func94.trans (congrArg some (by kernel_rfl))
 f285 := Tryz.func95.trans (congrArg some (by kernel_rfl))
 f286 := Tryz.func96.trans (congrArg some (by kernel_rfl))
 f317 := Tryz.func111.trans (congrArg some (by kernel_rfl))
 f318 := Tryz.func113.trans (congrArg some (by kernel_rfl))
 f319 := Tryz.func114.trans (congrArg some (by kernel_rfl))
 f320 := Tryz.func115.trans (congrArg some (by kernel_rfl))
 f337 := Tryz.func128.trans (congrArg some (by kernel_rfl))
 f338 := Tryz.func129.trans (congrArg some (by kernel_rfl))
 t0 := Tryz.underlying0
 a0 := Tryz.isAgg0
 z0 := Tryz.sizeOf0
 v0 := Tryz.zeroValue0
 t2 := Tryz.underlying2
 a2 := Tryz.isAgg2
 z2 := Tryz.sizeOf2
 v2 := Tryz.zeroValue2
 t3 := Tryz.underlying3
 a3 := Tryz.isAgg3
 z3 := Tryz.sizeOf3
 v3 := Tryz.zeroValue3
 t4 := Tryz.underlying4
 a4 := Tryz.isAgg4
 z4 := Tryz.sizeOf4
 v4 := Tryz.zeroValue4
 t5 := Tryz.underlying5
 a5 := Tryz.isAgg5
 z5 := Tryz.sizeOf5
 v5 := Tryz.zeroValue5
 t9 := Tryz.underlying9
 a9 := Tryz.isAgg9
 z9 := Tryz.sizeOf9
 v9 := Tryz.zeroValue9
 t20 := Tryz.underlying20
 a20 := Tryz.isAgg20
 z20 := Tryz.sizeOf20
 v20 := Tryz.zeroValue20
 t37 := Tryz.underlying53
 a37 := Tryz.isAgg53
 z37 := Tryz.sizeOf53
 v37 := Tryz.zeroValue53
 t46 := Tryz.underlying138
 a46 := Tryz.isAgg138
 z46 := Tryz.sizeOf138
 v46 := Tryz.zeroValue138
 t51 := Tryz.underlying144
 a51 := Tryz.isAgg144
 z51 := Tryz.sizeOf144
 v51 := Tryz.zeroValue144
 t53 := Tryz.underlying95
 a53 := Tryz.isAgg95
 z53 := Tryz.sizeOf95
 v53 := Tryz.zeroValue95
 t171 := Tryz.underlying130
 a171 := Tryz.isAgg130
 z171 := Tryz.sizeOf130
 v171 := Tryz.zeroValue130
 t173 := Tryz.underlying133
 a173 := Tryz.isAgg133
 z173 := Tryz.sizeOf133
 v173 := Tryz.zeroValue133
 t212 := Tryz.underlying151
 a212 := Tryz.isAgg151
 z212 := Tryz.sizeOf151
 v212 := Tryz.zeroValue151
 t213 := Tryz.underlying152
 a213 := Tryz.isAgg152
 z213 := Tryz.sizeOf152
 t232 := Tryz.underlying164
 a232 := Tryz.isAgg164
 z232 := Tryz.sizeOf164
 v232 := Tryz.zeroValue164
 t233 := Tryz.underlying165
 a233 := Tryz.isAgg165
 z233 := Tryz.sizeOf165
 v233 := Tryz.zeroValue165
 g17 := by kernel_rfl
 g18 := by kernel_rfl
 g19 := by kernel_rfl
 i0 := by kernel_rfl
 i2 := by kernel_rfl
 i3 := by kernel_rfl
 i4 := by kernel_rfl
 i5 := by kernel_rfl
 i9 := by kernel_rfl
 i20 := by kernel_rfl
 i37 := by kernel_rfl
 i46 := by kernel_rfl
 i51 := by kernel_rfl
 i53 := by kernel_rfl
 i171 := by kernel_rfl
 i173 := by kernel_rfl
 i212 := by kernel_rfl
 i232 := by kernel_rfl
 i233 := by kernel_rfl
 m17 := by kernel_rfl
 m18 := by kernel_rfl
 m19 := by kernel_rfl }
open Go.RowKit Go.Sort Go.Lib in
theorem Tryz.strconv_Itoa (n : Int) (h0 : -9223372036854775808 ≤ n) (h1 : n ≤ 9223372036854775807) (w : World) (htab : Lib.TabIs Tryz.prog w "internal/strconv.uint64pow10" .u64 Lib.pow10Tab) :
  Calls Tryz.prog 59 #[.int .i64 n] w fun e w' => e = .returned (.string ⟨(Lib.itoa n).toArray⟩) ∧ ∃ k os, w' = grow (w.drewN k) os := Any.strconv_Itoa Tryz.laysM171 n h0 h1 w htab
def Tryz.lays219_ren : Go.Shelf.Ren := ⟨fun | 219 => 106 | 217 => 123 | 225 => 124 | 224 => 125 | 267 => 126 | 266 => 133 | 314 => 134 | n => n, fun | 9 => 9 | 3 => 3 | 4 => 4 | 5 => 5 | 46 => 138 | 146 => 162 | 51 => 144 | n => n, fun | 1 => 4 | n => n⟩
theorem Tryz.lays219 : Go.Proofs.Lays.n219 Tryz.prog Tryz.lays219_ren := {
 mixed := by kernel_rfl
 f217 := Tryz.func123.trans (congrArg some (by kernel_rfl))
 f219 := Tryz.func106.trans (congrArg some (by kernel_rfl))
 f224 := Tryz.func125.trans (congrArg some (by kernel_rfl))
 f225 := Tryz.func124.trans (congrArg some (by kernel_rfl))
 f266 := Tryz.func133.trans (congrArg some (by kernel_rfl))
 f267 := Tryz.func126.trans (congrArg some (by kernel_rfl))
 f314 := Tryz.func134.trans (congrArg some (by kernel_rfl))
 t3 := Tryz.underlying3
 a3 := Tryz.isAgg3
 z3 := Tryz.sizeOf3
 v3 := Tryz.zeroValue3
 t4 := Tryz.underlying4
 a4 := Tryz.isAgg4
 z4 := Tryz.sizeOf4
 v4 := Tryz.zeroValue4
 t5 := Tryz.underlying5
 a5 := Tryz.isAgg5
 z5 := Tryz.sizeOf5
 v5 := Tryz.zeroValue5
 t9 := Tryz.underlying9
 a9 := Tryz.isAgg9
 z9 := Tryz.sizeOf9
 v9 := Tryz.zeroValue9
 t46 := Tryz.underlying138
 a46 := Tryz.isAgg138
 z46 := Tryz.sizeOf138
 v46 := Tryz.zeroValue138
 t51 := Tryz.underlying144
 a51 := Tryz.isAgg144
 z51 := Tryz.sizeOf144
 v51 := Tryz.zeroValue144
 t146 := Tryz.underlying162
 a146 := Tryz.isAgg162
 z146 := Tryz.sizeOf162
 v146 := Tryz.zeroValue162
 g1 := by kernel_rfl }
open Go.RowKit Go.Lib in
theorem Tryz.stringslite_Index_one (s : ByteArray) (c : UInt8) (w : World) :
  Calls Tryz.prog 106 #[.string s, .string ⟨#[c]⟩] w fun e w' => e = .returned (.int .i64 (Lib.indexByte s.data.toList c)) ∧ w' = w := Any.stringslite_Index_one Tryz.lays219 s c w
def Tryz.lays144_ren : Go.Shelf.Ren := ⟨fun | 144 => 70 | 143 => 88 | 219 => 106 | 217 => 123 | 225 => 124 | 224 => 125 | 267 => 126 | 266 => 133 | 314 => 134 | n => n, fun | 9 => 9 | 4 => 4 | 3 => 3 | 5 => 5 | 46 => 138 | 146 => 162 | 51 => 144 | n => n, fun | 1 => 4 | n => n⟩
theorem Tryz.lays144 : Go.Proofs.Lays.n144 Tryz.prog Tryz.lays144_ren := {
 mixed := by kernel_rfl
 f143 := Tryz.func88.trans (congrArg some (by kernel_rfl))
 f144 := Tryz.func70.trans (congrArg some (by kernel_rfl))
 f217 := Tryz.func123.trans (congrArg some (by kernel_rfl))
 f219 := Tryz.func106.trans (congrArg some (by kernel_rfl))
 f224 := Tryz.func125.trans (congrArg some (by kernel_rfl))
 f225 := Tryz.func124.trans (congrArg some (by kernel_rfl))
 f266 := Tryz.func133.trans (congrArg some (by kernel_rfl))
 f267 := Tryz.func126.trans (congrArg some (by kernel_rfl))
 f314 := Tryz.func134.trans (congrArg some (by kernel_rfl))
 t3 := Tryz.underlying3
 a3 := Tryz.isAgg3
 z3 := Tryz.sizeOf3
 v3 := Tryz.zeroValue3
 t4 := Tryz.underlying4
 a4 := Tryz.isAgg4
 z4 := Tryz.sizeOf4
 v4 := Tryz.zeroValue4
 t5 := Tryz.underlying5
 a5 := Tryz.isAgg5
 z5 := Tryz.sizeOf5
 v5 := Tryz.zeroValue5
 t9 := Tryz.underlying9
 a9 := Tryz.isAgg9
 z9 := Tryz.sizeOf9
 v9 := Tryz.zeroValue9
 t46 := Tryz.underlying138
 a46 := Tryz.isAgg138
 z46 := Tryz.sizeOf138
 v46 := Tryz.zeroValue138
 t51 := Tryz.underlying144
 a51 := Tryz.isAgg144
 z51 := Tryz.sizeOf144
 v51 := Tryz.zeroValue144
 t146 := Tryz.underlying162
 a146 := Tryz.isAgg162
 z146 := Tryz.sizeOf162
 v146 := Tryz.zeroValue162
 g1 := by kernel_rfl }
open Go.RowKit Go.Lib in
theorem Tryz.strings_Contains_one (s : ByteArray) (c : UInt8) (w : World) :
  Calls Tryz.prog 70 #[.string s, .string ⟨#[c]⟩] w fun e w' => e = .returned (.bool (decide (0 ≤ Lib.indexByte s.data.toList c))) ∧ w' = w := Any.strings_Contains_one Tryz.lays144 s c w
def Tryz.lays99_ren : Go.Shelf.Ren := ⟨fun | 99 => 69 | 206 => 87 | n => n, fun | 9 => 9 | 4 => 4 | 3 => 3 | n => n, fun | n => n⟩
theorem Tryz.lays99 : Go.Proofs.Lays.n99 Tryz.prog Tryz.lays99_ren := {
 mixed := by kernel_rfl
 f99 := Tryz.func69.trans (congrArg some (by kernel_rfl))
 f206 := Tryz.func87.trans (congrArg some (by kernel_rfl))
 t3 := Tryz.underlying3
 a3 := Tryz.isAgg3
 z3 := Tryz.sizeOf3
 v3 := Tryz.zeroValue3
 t4 := Tryz.underlying4
 a4 := Tryz.isAgg4
 z4 := Tryz.sizeOf4
 v4 := Tryz.zeroValue4
 t9 := Tryz.underlying9
 a9 := Tryz.isAgg9
 z9 := Tryz.sizeOf9
 v9 := Tryz.zeroValue9 }
open Go.RowKit Go.Lib in
theorem Tryz.strings_HasPrefix (s p : ByteArray) (w : World) :
  Calls Tryz.prog 69 #[.string s, .string p] w fun e w' => e = .returned (.bool (Lib.hasPrefix s.data.toList p.data.toList)) ∧ w' = w := Any.strings_HasPrefix Tryz.lays99 s p w
def Tryz.lays154_ren : Go.Shelf.Ren := ⟨fun | 154 => 79 | 138 => 100 | 165 => 101 | 143 => 88 | 166 => 26 | 197 => 61 | 169 => 17 | 195 => 45 | 218 => 118 | 240 => 50 | 241 => 119 | 219 => 106 | 260 => 82 | 276 => 73 | 277 => 132 | 217 => 123 | 225 => 124 | 224 => 125 | 267 => 126 | 266 => 133 | 314 => 134 | n => n, fun | 9 => 9 | 3 => 3 | 4 => 4 | 72 => 55 | 0 => 0 | 76 => 74 | 105 => 89 | 21 => 21 | 5 => 5 | 70 => 52 | 20 => 20 | 37 => 53 | 75 => 73 | 127 => 83 | 164 => 109 | 46 => 138 | 119 => 137 | 139 => 141 | 138 => 140 | 146 => 162 | 51 => 144 | 80 => 57 | n => n, fun | 1 => 4 | 3 => 1 | 4 => 2 | n => n⟩
def Tryz.lays155_ren : Go.Shelf.Ren := ⟨fun | 155 => 54 | 154 => 79 | 138 => 100 | 165 => 101 | 143 => 88 | 166 => 26 | 197 => 61 | 169 => 17 | 195 => 45 | 218 => 118 | 240 => 50 | 241 => 119 | 219 => 106 | 260 => 82 | 276 => 73 | 277 => 132 | 217 => 123 | 225 => 124 | 224 => 125 | 267 => 126 | 266 => 133 | 314 => 134 | n => n, fun | 9 => 9 | 3 => 3 | 4 => 4 | 72 => 55 | 0 => 0 | 76 => 74 | 105 => 89 | 21 => 21 | 5 => 5 | 70 => 52 | 20 => 20 | 37 => 53 | 75 => 73 | 127 => 83 | 164 => 109 | 46 => 138 | 119 => 137 | 139 => 141 | 138 => 140 | 146 => 162 | 51 => 144 | 80 => 57 | n => n, fun | 1 => 4 | 3 => 1 | 4 => 2 | n => n⟩
theorem Tryz.lays155 : Go.Proofs.Lays.n155 Tryz.prog Tryz.lays155_ren := {
 mixed := by kernel_rfl
 f138 := Tryz.func100.trans (congrArg some (by kernel_rfl))
 f143 := Tryz.func88.trans (congrArg some (by kernel_rfl))
 f154 := Tryz.func79.trans (congrArg some (by kernel_rfl))
 f155 := Tryz.func54.trans (congrArg some (by kernel_rfl))
 f165 := Tryz.func101.trans (congrArg some (by kernel_rfl))
 f166 := Tryz.func26.trans (congrArg some (by kernel_rfl))
 f169 := Tryz.func17.trans (congrArg some (by kernel_rfl))
 f195 := Tryz.func45.trans (congrArg some (by kernel_rfl))
 f197 := Tryz.func61.trans (congrArg some (by kernel_rfl))
 f217 := Tryz.func123.trans (congrArg some (by kernel_rfl))
 f218 := Tryz.func118.trans (congrArg some (by kernel_rfl))
 f219 := Tryz.func106.trans (congrArg some (by kernel_rfl))
 f224 := Tryz.func125.trans (congrArg some (by kernel_rfl))
 f225 := Tryz.func124.trans (congrArg some (by kernel_rfl))
 f240 := Tryz.func50.trans (congrArg some (by kernel_rfl))
 f241 := Tryz.func119.trans (congrArg some (by kernel_rfl))
 f260 := Tryz.func82.trans (congrArg some (by kernel_rfl))
 f266 := Tryz.func133.trans (congrArg some (by kernel_rfl))
 f267 := Tryz.func126.trans (congrArg some (by kernel_rfl))
 f276 := Tryz.func73.trans (congrArg some (by kernel_rfl))
 f277 := Tryz.func132.trans (congrArg some (by kernel_rfl))
 f314 := Tryz.func134.trans (congrArg some (by kernel_rfl))
 t0 := Tryz.underlying0
 a0 := Tryz.isAgg0
 z0 := Tryz.sizeOf0
 v0 := Tryz.zeroValue0
 t3 := Tryz.underlying3
 a3 := Tryz.isAgg3
 z3 := Tryz.sizeOf3
 v3 := Tryz.zeroValue3
 t4 := Tryz.underlying4
 a4 := Tryz.isAgg4
 z4 := Tryz.sizeOf4
 v4 := Tryz.zeroValue4
 t5 := Tryz.underlying5
 a5 := Tryz.isAgg5
 z5 := Tryz.sizeOf5
 v5 := Tryz.zeroValue5
 t9 := Tryz.underlying9
 a9 := Tryz.isAgg9
 z9 := Tryz.sizeOf9
 v9 := Tryz.zeroValue9
 t20 := Tryz.underlying20
 a20 := Tryz.isAgg20
 z20 := Tryz.sizeOf20
 v20 := Tryz.zeroValue20
 t21 := Tryz.underlying21
 a21 := Tryz.isAgg21
 z21 := Tryz.sizeOf21
 v21 := Tryz.zeroValue21
 t37 := Tryz.underlying53
 a37 := Tryz.isAgg53
 z37 := Tryz.sizeOf53
 v37 := Tryz.zeroValue53
 t46 := Tryz.underlying138
 a46 := Tryz.isAgg138
 z46 := Tryz.sizeOf138
 v46 := Tryz.zeroValue138
 t51 := Tryz.underlying144
 a51 := Tryz.isAgg144
 z51 := Tryz.sizeOf144
 v51 := Tryz.zeroValue144
 t70 := Tryz.underlying52
 a70 := Tryz.isAgg52
 z70 := Tryz.sizeOf52
 v70 := Tryz.zeroValue52
 t72 := Tryz.underlying55
 a72 := Tryz.isAgg55
 z72 := Tryz.sizeOf55
 v72 := Tryz.zeroValue55
 t75 := Tryz.underlying73
 a75 := Tryz.isAgg73
 z75 := Tryz.sizeOf73
 v75 := Tryz.zeroValue73
 t76 := Tryz.underlying74
 a76 := Tryz.isAgg74
 z76 := Tryz.sizeOf74
 v76 := Tryz.zeroValue74
 t105 := Tryz.underlying89
 a105 := Tryz.isAgg89
 z105 := Tryz.sizeOf89
 v105 := Tryz.zeroValue89
 t119 := Tryz.underlying137
 a119 := Tryz.isAgg137
 z119 := Tryz.sizeOf137
 t127 := Tryz.underlying83
 a127 := Tryz.isAgg83
 z127 := Tryz.sizeOf83
 v127 := Tryz.zeroValue83
 t138 := Tryz.underlying140
 a138 := Tryz.isAgg140
 z138 := Tryz.sizeOf140
 v138 := Tryz.zeroValue140
 t139 := Tryz.underlying141
 a139 := Tryz.isAgg141
 z139 := Tryz.sizeOf141
 v139 := Tryz.zeroValue141
 t146 := Tryz.underlying162
 a146 := Tryz.isAgg162
 z146 := Tryz.sizeOf162
 v146 := Tryz.zeroValue162
 t164 := Tryz.underlying109
 a164 := Tryz.isAgg109
 z164 := Tryz.sizeOf109
 v164 := Tryz.zeroValue109
 g1 := by kernel_rfl
 g3 := by kernel_rfl
 g4 := by kernel_rfl }
theorem Tryz.Builder_Extra_155 : Builder.Extra Tryz.prog Tryz.lays155_ren := {
 sizeBuilder := by kernel_rfl
 liesBuilder := by kernel_rfl
 t5 := Tryz.underlying5
 a5 := Tryz.isAgg5
 z5 := Tryz.sizeOf5
 v5 := Tryz.zeroValue5
 infoByte := by kernel_rfl
 cellsByte := by kernel_rfl
 sizeByte := by kernel_rfl
 neB5 := by decide }
open Go.RowKit Go.Lib in
theorem Tryz.strings_ReplaceAll (s old new : ByteArray) (m : Int) (w : World) (hs : s.size < 4294967281) (hm : w.cell? ⟨4, 0, none⟩ = some (.int .i64 m)) (h1 : 1 ≤ old.size) (hlen : s.size + Lib.countB s old * new.size ≤ 140737488355328) :
  Calls Tryz.prog 54 #[.string s, .string old, .string new] w fun e w' =>
   e = .returned (.string ⟨(Lib.replaceAll s.data.toList old.data.toList new.data.toList).toArray⟩) ∧ Below w.heap.size w w' := Any.strings_ReplaceAll Tryz.lays155 Tryz.Builder_Extra_155 s old new m w hs hm h1 hlen
def Tryz.laysM155_ren : Go.Shelf.Ren := ⟨fun | 155 => 54 | 154 => 79 | 138 => 100 | 165 => 101 | 143 => 88 | 166 => 26 | 197 => 61 | 169 => 17 | 195 => 45 | 218 => 118 | 240 => 50 | 241 => 119 | 219 => 106 | 260 => 82 | 276 => 73 | 277 => 132 | 217 => 123 | 225 => 124 | 224 => 125 | 267 => 126 | 266 => 133 | 314 => 134 | n => n, fun | 9 => 9 | 3 => 3 | 4 => 4 | 72 => 55 | 0 => 0 | 76 => 74 | 105 => 89 | 21 => 21 | 5 => 5 | 70 => 52 | 20 => 20 | 37 => 53 | 75 => 73 | 127 => 83 | 164 => 109 | 46 => 138 | 119 => 137 | 139 => 141 | 138 => 140 | 146 => 162 | 51 => 144 | 80 => 57 | n => n, fun | 1 => 4 | 3 => 1 | 4 => 2 | n => n⟩
theorem Tryz.laysM155 : Go.Proofs.LaysM.n155 Tryz.prog Tryz.laysM155_ren := {
 mixed := by kernel_rfl
 f138 := Tryz.func100.trans (congrArg some (by kernel_rfl))
 f143 := Tryz.func88.trans (congrArg some (by kernel_rfl))
 f154 := Tryz.func79.trans (congrArg some (by kernel_rfl))
 f155 := Tryz.func54.trans (congrArg some (by kernel_rfl))
 f165 := Tryz.func101.trans (congrArg some (by kernel_rfl))
 f166 := Tryz.func26.trans (congrArg some (by kernel_rfl))
 f169 := Tryz.func17.trans (congrArg some (by kernel_rfl))
 f195 := Tryz.func45.trans (congrArg some (by kernel_rfl))
 f197 := Tryz.func61.trans (congrArg some (by kernel_rfl))
 f217 := Tryz.func123.trans (congrArg some (by kernel_rfl))
 f218 := Tryz.func118.trans (congrArg some (by kernel_rfl))
 f219 := Tryz.func106.trans (congrArg some (by kernel_rfl))
 f224 := Tryz.func125.trans (congrArg some (by kernel_rfl))
 f225 := Tryz.func124.trans (congrArg some (by kernel_rfl))
 f240 := Tryz.func50.trans (congrArg some (by kernel_rfl))
 f241 := Tryz.func119.trans (congrArg some (by kernel_rfl))
 f260 := Tryz.func82.trans (congrArg some (by kernel_rfl))
 f266 := Tryz.func133.trans (congrArg some (by kernel_rfl))
 f267 := Tryz.func126.trans (congrArg some (by kernel_rfl))
 f276 := Tryz.func73.trans (congrArg some (by kernel_rfl))
 f277 := Tryz.func132.trans (congrArg some (by kernel_rfl))
 f314 := Tryz.func134.trans (congrArg some (by kernel_rfl))
 t0 := Tryz.underlying0
 a0 := Tryz.isAgg0
 z0 := Tryz.sizeOf0
 v0 := Tryz.zeroValue0
 t3 := Tryz.underlying3
 a3 := Tryz.isAgg3
 z3 := Tryz.sizeOf3
 v3 := Tryz.zeroValue3
 t4 := Tryz.underlying4
 a4 := Tryz.isAgg4
 z4 := Tryz.sizeOf4
 v4 := Tryz.zeroValue4
 t5 := Tryz.underlying5
 a5 := Tryz.isAgg5
 z5 := Tryz.sizeOf5
 v5 := Tryz.zeroValue5
 t9 := Tryz.underlying9
 a9 := Tryz.isAgg9
 z9 := Tryz.sizeOf9
 v9 := Tryz.zeroValue9
 t20 := Tryz.underlying20
 a20 := Tryz.isAgg20
 z20 := Tryz.sizeOf20
 v20 := Tryz.zeroValue20
 t21 := Tryz.underlying21
 a21 := Tryz.isAgg21
 z21 := Tryz.sizeOf21
 v21 := Tryz.zeroValue21
 t37 := Tryz.underlying53
 a37 := Tryz.isAgg53
 z37 := Tryz.sizeOf53
 v37 := Tryz.zeroValue53
 t46 := Tryz.underlying138
 a46 := Tryz.isAgg138
 z46 := Tryz.sizeOf138
 v46 := Tryz.zeroValue138
 t51 := Tryz.underlying144
 a51 := Tryz.isAgg144
 z51 := Tryz.sizeOf144
 v51 := Tryz.zeroValue144
 t70 := Tryz.underlying52
 a70 := Tryz.isAgg52
 z70 := Tryz.sizeOf52
 v70 := Tryz.zeroValue52
 t72 := Tryz.underlying55
 a72 := Tryz.isAgg55
 z72 := Tryz.sizeOf55
 v72 := Tryz.zeroValue55
 t75 := Tryz.underlying73
 a75 := Tryz.isAgg73
 z75 := Tryz.sizeOf73
 v75 := Tryz.zeroValue73
 t76 := Tryz.underlying74
 a76 := Tryz.isAgg74
 z76 := Tryz.sizeOf74
 v76 := Tryz.zeroValue74
 t105 := Tryz.underlying89
 a105 := Tryz.isAgg89
 z105 := Tryz.sizeOf89
 v105 := Tryz.zeroValue89
 t119 := Tryz.underlying137
 a119 := Tryz.isAgg137
 z119 := Tryz.sizeOf137
 t127 := Tryz.underlying83
 a127 := Tryz.isAgg83
 z127 := Tryz.sizeOf83
 v127 := Tryz.zeroValue83
 t138 := Tryz.underlying140
 a138 := Tryz.isAgg140
 z138 := Tryz.sizeOf140
 v138 := Tryz.zeroValue140
 t139 := Tryz.underlying141
 a139 := Tryz.isAgg141
 z139 := Tryz.sizeOf141
 v139 := Tryz.zeroValue141
 t146 := Tryz.underlying162
 a146 := Tryz.isAgg162
 z146 := Tryz.sizeOf162
 v146 := Tryz.zeroValue162
 t164 := Tryz.underlying109
 a164 := Tryz.isAgg109
 z164 := Tryz.sizeOf109
 v164 := Tryz.zeroValue109
 g1 := by kernel_rfl
 g3 := by kernel_rfl
 g4 := by kernel_rfl
 t80 := Tryz.underlying57
 a80 := Tryz.isAgg57
 z80 := Tryz.sizeOf57
 v80 := Tryz.zeroValue57
 i0 := by kernel_rfl
 i3 := by kernel_rfl
 i4 := by kernel_rfl
 i5 := by kernel_rfl
 i9 := by kernel_rfl
 i20 := by kernel_rfl
 i21 := by kernel_rfl
 i37 := by kernel_rfl
 i46 := by kernel_rfl
 i51 := by kernel_rfl
 i70 := by kernel_rfl
 i72 := by kernel_rfl
 i75 := by kernel_rfl
 i76 := by kernel_rfl
 i80 := by kernel_rfl
 i105 := by kernel_rfl
 i127 := by kernel_rfl
 i138 := by kernel_rfl
 i139 := by kernel_rfl
 i146 := by kernel_rfl
 i164 := by kernel_rfl
 m1 := by kernel_rfl
 s1_3 := fun w h => Go.Proofs.cell_of_shapedOpen_int (zero := #[.int .i64 0]) (t := 3) h (of_decide_eq_true (by kernel_rfl)) (by kernel_rfl) rfl (by kernel_rfl) (by kernel_rfl) Tryz.underlying3
 m3 := by kernel_rfl
 m4 := by kernel_rfl }
def Tryz.lays197_ren : Go.Shelf.Ren := ⟨fun | 197 => 61 | 260 => 82 | n => n, fun | 9 => 9 | 21 => 21 | 3 => 3 | 4 => 4 | 5 => 5 | 105 => 89 | 119 => 137 | 0 => 0 | 46 => 138 | 139 => 141 | 138 => 140 | n => n, fun | 3 => 1 | 4 => 2 | n => n⟩
theorem Tryz.lays197 : Go.Proofs.Lays.n197 Tryz.prog Tryz.lays197_ren := {
 mixed := by kernel_rfl
 f197 := Tryz.func61.trans (congrArg some (by kernel_rfl))
 f260 := Tryz.func82.trans (congrArg some (by kernel_rfl))
 t0 := Tryz.underlying0
 a0 := Tryz.isAgg0
 z0 := Tryz.sizeOf0
 v0 := Tryz.zeroValue0
 t3 := Tryz.underlying3
 a3 := Tryz.isAgg3
 z3 := Tryz.sizeOf3
 v3 := Tryz.zeroValue3
 t4 := Tryz.underlying4
 a4 := Tryz.isAgg4
 z4 := Tryz.sizeOf4
 v4 := Tryz.zeroValue4
 t5 := Tryz.underlying5
 a5 := Tryz.isAgg5
 z5 := Tryz.sizeOf5
 v5 := Tryz.zeroValue5
 t9 := Tryz.underlying9
 a9 := Tryz.isAgg9
 z9 := Tryz.sizeOf9
 v9 := Tryz.zeroValue9
 t21 := Tryz.underlying21
 a21 := Tryz.isAgg21
 z21 := Tryz.sizeOf21
 v21 := Tryz.zeroValue21
 t46 := Tryz.underlying138
 a46 := Tryz.isAgg138
 z46 := Tryz.sizeOf138
 v46 := Tryz.zeroValue138
 t105 := Tryz.underlying89
 a105 := Tryz.isAgg89
 z105 := Tryz.sizeOf89
 v105 := Tryz.zeroValue89
 t119 := Tryz.underlying137
 a119 := Tryz.isAgg137
 z119 := Tryz.sizeOf137
 t138 := Tryz.underlying140
 a138 := Tryz.isAgg140
 z138 := Tryz.sizeOf140
 v138 := Tryz.zeroValue140
 t139 := Tryz.underlying141
 a139 := Tryz.isAgg141
 z139 := Tryz.sizeOf141
 v139 := Tryz.zeroValue141
 g3 := by kernel_rfl
 g4 := by kernel_rfl }
def Tryz.lays260_ren : Go.Shelf.Ren := ⟨fun | 260 => 82 | n => n, fun | 9 => 9 | 21 => 21 | 3 => 3 | 4 => 4 | 5 => 5 | 119 => 137 | 0 => 0 | 46 => 138 | 139 => 141 | 138 => 140 | n => n, fun | 3 => 1 | 4 => 2 | n => n⟩
theorem Tryz.lays260 : Go.Proofs.Lays.n260 Tryz.prog Tryz.lays260_ren := {
 mixed := by kernel_rfl
 f260 := Tryz.func82.trans (congrArg some (by kernel_rfl))
 t0 := Tryz.underlying0
 a0 := Tryz.isAgg0
 z0 := Tryz.sizeOf0
 v0 := Tryz.zeroValue0
 t3 := Tryz.underlying3
 a3 := Tryz.isAgg3
 z3 := Tryz.sizeOf3
 v3 := Tryz.zeroValue3
 t4 := Tryz.underlying4
 a4 := Tryz.isAgg4
 z4 := Tryz.sizeOf4
 v4 := Tryz.zeroValue4
 t5 := Tryz.underlying5
 a5 := Tryz.isAgg5
 z5 := Tryz.sizeOf5
 v5 := Tryz.zeroValue5
 t9 := Tryz.underlying9
 a9 := Tryz.isAgg9
 z9 := Tryz.sizeOf9
 v9 := Tryz.zeroValue9
 t21 := Tryz.underlying21
 a21 := Tryz.isAgg21
 z21 := Tryz.sizeOf21
 v21 := Tryz.zeroValue21
 t46 := Tryz.underlying138
 a46 := Tryz.isAgg138
 z46 := Tryz.sizeOf138
 v46 := Tryz.zeroValue138
 t119 := Tryz.underlying137
 a119 := Tryz.isAgg137
 z119 := Tryz.sizeOf137
 t138 := Tryz.underlying140
 a138 := Tryz.isAgg140
 z138 := Tryz.sizeOf140
 v138 := Tryz.zeroValue140
 t139 := Tryz.underlying141
 a139 := Tryz.isAgg141
 z139 := Tryz.sizeOf141
 v139 := Tryz.zeroValue141
 g3 := by kernel_rfl
 g4 := by kernel_rfl }
open Go.RowKit Go.Lib in
theorem Tryz.utf8_DecodeRuneInString (s : ByteArray) (w : World) (hT : Lib.Utf8Tabs 1 2 w) :
  Calls Tryz.prog 61 #[.string s] w fun e w' => e = .returned (.tuple #[.int .i32 (Lib.decodeGo s).1, .int .i64 (Lib.decodeGo s).2]) ∧ Below w.heap.size w w' := Any.utf8_DecodeRuneInString Tryz.lays197 s w hT
end Go.Proofs
namespace Go.A
open Go.Proofs
section
variable {P : Program} {σ : ASt} {w : World}
theorem reps_ints {k : IntKind} : ∀ {zs : List Int} {vs : List Value}, Reps σ w (zs.map (AV.int k)) vs → vs = zs.map (Value.int k)
 | [], vs, h => by cases h; rfl
 | z :: zs, vs, h => by
   cases h with
   | cons h1 h2 =>
     cases h1
     rw [reps_ints h2]
     rfl
theorem tabIs_of (hs : Sim σ w) {name : String} {b : Nat} {k : IntKind} {zs : List Int} (hg : P.globalNamed name = some b) (hb : σ b = some (.fix (zs.map (AV.int k)))) : Lib.TabIs P w name k zs := by
 obtain ⟨h1, c, T, fr, h2, h3⟩ := hs b _ hb
 obtain ⟨vs, h4, h5⟩ := h1.vals
 have h6 := reps_ints h4
 subst h6
 unfold Lib.TabIs World.var?
 rw [hg, Option.bind_some]
 simp only [h2]
 congr 1
 apply Array.ext
 ·simp [h3]
 ·intro j hj hj'
  have h7 := h5 j (Value.int k (zs[j]'(by simpa using hj'))) (by simp)
  simp only [World.cell?, h2, Nat.zero_add] at h7
  simp at h7 ⊢
  obtain ⟨_, h7⟩ := Array.getElem?_eq_some_iff.1 h7
  exact h7
theorem ACalls.of_ext {f : FuncId} {args : List AV} {r : AV} {u : Value} (h : ∀ w vs, Sim σ w → Reps σ w args vs → Calls P f ⟨vs⟩ w fun e w' => e = .returned u ∧ Ext w w') (hr : ∀ w, Rep σ w r u) : ACalls P f args σ fun v σ' => v = r ∧ σ' = σ :=
 fun w vs hs ha => (h w vs hs ha).mono fun e w' ⟨he, hx⟩ => ⟨u, r, σ, he, ⟨rfl, rfl⟩, ext_le hx, hs.ext hx, hr w'⟩
theorem ext_grow (w : World) (k : Nat) (os : Array Obj) : Ext w (Go.Sort.grow (w.drewN k) os) := ⟨⟨os, w.drawn + k⟩, rfl⟩
end
theorem Ext.of_eq {w w' : World} (h : w' = w) : Ext w w' := h ▸ Ext.refl w
def Tab (σ : ASt) : Prop := σ 3 = some (.fix (Lib.pow10Tab.map (AV.int .u64)))
theorem Tab.set {σ : ASt} {b : Nat} {r : Option Role} (h : Tab σ) (hb : σ b = none) : Tab (σ.set b r) := by
 unfold Tab at *
 rw [ASt.set_ne]
 ·exact h
 ·intro e; rw [← e, h] at hb; cases hb
end Go.A
namespace Go.A
open Go.Proofs
theorem itoa_ok {σ : ASt} (h : Tab σ) {n : Int} (h0 : -9223372036854775808 ≤ n) (h1 : n ≤ 9223372036854775807) : ACalls Tryz.prog 59 [.int .i64 n] σ fun v σ' => v = .str (Lib.itoa n) ∧ σ' = σ := by
 refine ACalls.of_ext (u := .string ⟨(Lib.itoa n).toArray⟩) (fun w vs hs ha => ?_) fun w => .str _
 cases ha with
 | cons h2 h3 =>
   cases h2; cases h3
   refine (Tryz.strconv_Itoa n h0 h1 w (tabIs_of hs (by kernel_rfl) h)).mono ?_
   rintro e w' ⟨he, k, os, rfl⟩
   exact ⟨he, ext_grow w k os⟩
end Go.A
namespace Go.A
open Go.Proofs
/-! 120: tabular/addr.letter -/
def c120_0 : ACode := .ops [
 ⟨some 2, none, .q (.mv (.v (.int .i64 0))), []⟩]
def c120_1 : ACode := .ops [
 ⟨some 4, none, .q (.mv (.t 0)), []⟩,
 ⟨some 5, none, .q (.bin .geq (.t 4) (.v (.int .u8 65))), []⟩,
 ⟨some 6, none, .q (.mv (.t 5)), []⟩,
 ⟨some 7, some (6, true), .q (.mv (.t 0)), []⟩,
 ⟨some 8, some (6, true), .q (.bin .leq (.t 7) (.v (.int .u8 90))), []⟩,
 ⟨some 9, none, .q (.pick (.t 6) (.t 8) (.v (.bool false))), []⟩,
 ⟨some 3, none, .q (.mv (.t 9)), []⟩]
def c120_2 : ACode := .ops [
 ⟨some 10, none, .q (.mv (.t 0)), []⟩,
 ⟨some 11, none, .q (.bin .sub (.t 10) (.v (.int .u8 65))), []⟩,
 ⟨some 12, none, .q (.conv .i64 (.t 11)), []⟩,
 ⟨some 13, none, .q (.bin .add (.t 12) (.v (.int .i64 1))), []⟩,
 ⟨some 2, none, .q (.mv (.t 13)), []⟩]
def c120_3 : ACode := .seq c120_2 .ret
def c120_4 : ACode := .ops [
 ⟨some 15, none, .q (.mv (.t 0)), []⟩,
 ⟨some 16, none, .q (.bin .geq (.t 15) (.v (.int .u8 97))), []⟩,
 ⟨some 17, none, .q (.mv (.t 16)), []⟩,
 ⟨some 18, some (17, true), .q (.mv (.t 0)), []⟩,
 ⟨some 19, some (17, true), .q (.bin .leq (.t 18) (.v (.int .u8 122))), []⟩,
 ⟨some 20, none, .q (.pick (.t 17) (.t 19) (.v (.bool false))), []⟩,
 ⟨some 14, none, .q (.mv (.t 20)), []⟩]
def c120_5 : ACode := .ops [
 ⟨some 21, none, .q (.mv (.t 0)), []⟩,
 ⟨some 22, none, .q (.bin .sub (.t 21) (.v (.int .u8 97))), []⟩,
 ⟨some 23, none, .q (.conv .i64 (.t 22)), []⟩,
 ⟨some 24, none, .q (.bin .add (.t 23) (.v (.int .i64 1))), []⟩,
 ⟨some 2, none, .q (.mv (.t 24)), []⟩]
def c120_6 : ACode := .seq c120_5 .ret
def c120_7 : ACode := .cond (.t 14) c120_6 .skip
def c120_8 : ACode := .seq c120_4 c120_7
def c120_9 : ACode := .cond (.t 3) c120_3 c120_8
def c120_10 : ACode := .seq c120_1 c120_9
def c120_11 : ACode := .block 0 c120_10
def c120_12 : ACode := .ops [
 ⟨some 2, none, .q (.mv (.v (.int .i64 0))), []⟩]
def c120_13 : ACode := .seq c120_12 .ret
def c120_14 : ACode := .seq c120_11 c120_13
def c120_15 : ACode := .seq c120_0 c120_14
@[go_sem] def c120_0_wp := wp_of c120_0.eq_1
@[go_sem] def c120_1_wp := wp_of c120_1.eq_1
@[go_sem] def c120_2_wp := wp_of c120_2.eq_1
@[go_sem] def c120_3_wp := wp_of c120_3.eq_1
@[go_sem] def c120_4_wp := wp_of c120_4.eq_1
@[go_sem] def c120_5_wp := wp_of c120_5.eq_1
@[go_sem] def c120_6_wp := wp_of c120_6.eq_1
@[go_sem] def c120_7_wp := wp_of c120_7.eq_1
@[go_sem] def c120_8_wp := wp_of c120_8.eq_1
@[go_sem] def c120_9_wp := wp_of c120_9.eq_1
@[go_sem] def c120_10_wp := wp_of c120_10.eq_1
@[go_sem] def c120_11_wp := wp_of c120_11.eq_1
@[go_sem] def c120_12_wp := wp_of c120_12.eq_1
@[go_sem] def c120_13_wp := wp_of c120_13.eq_1
@[go_sem] def c120_14_wp := wp_of c120_14.eq_1
@[go_sem] def c120_15_wp := wp_of c120_15.eq_1
def c120 : AFn := ⟨25, [.t 2], c120_15⟩
theorem c120_ok : compF Tryz.prog Tryz.f120 = some c120 := by kernel_rfl
theorem a120 {args : List AV} {σ : ASt} {R : AV → ASt → Prop} (hl : args.length ≤ 25) (h : c120_15.wp Tryz.prog (RetQ [.t 2] R) (init args) σ) : ACalls Tryz.prog 120 args σ R := acalls_of Tryz.func120 c120_ok hl h
end Go.A
namespace Go.A
open Go.Proofs
def letterP (c : Int) : Int := if 65 ≤ c ∧ c ≤ 90 then c - 64 else if 97 ≤ c ∧ c ≤ 122 then c - 96 else 0
theorem letter_ok (c : Int) (h0 : 0 ≤ c) (h1 : c ≤ 255) : Pure Tryz.prog 120 [.int .u8 c] (.int .i64 (letterP c)) := by
 intro σ
 refine a120 (by simp) ?_
 repeat' (first | (simp (disch := first | assumption | omega) only [go_sem, reduceCtorEq, Nat.reduceEqDiff, ↓reduceIte]) | with_reducible refine gC_d (fun h => ?_) (fun h => ?_) | with_reducible refine gC_dn (fun h => ?_) (fun h => ?_) | with_reducible refine condC_d (fun h => ?_) (fun h => ?_) | with_reducible refine condC_n (fun h => ?_) (fun h => ?_) | with_reducible refine condC_b (fun h => ?_) (fun h => ?_) | with_reducible refine boxC_by ?_ fun b hb => ?_)
 all_goals refine retC_by (Drop.refl _) (.refl _) ⟨?_, rfl⟩
 all_goals (simp only [letterP, resV_one]; congr 1; repeat' split) <;> omega
structure Ref where
 row : Int
 col : Int
 absRow : Bool
 absCol : Bool
 deriving DecidableEq, Inhabited
def refAV (r : Ref) : AV := .agg [.int .i64 r.row, .int .i64 r.col, .bool r.absRow, .bool r.absCol]
def Ref.good (r : Ref) : Bool := decide (0 ≤ r.row ∧ r.row < 3000 ∧ 0 ≤ r.col ∧ r.col < 700)
def Ref.zero : Ref := ⟨0, 0, false, false⟩
end Go.A
namespace Go.A
open Go.Proofs
/-! 58: tabular/addr.Letters -/
def c58_0 : ACode := .ops [
 ⟨some 2, none, .q (.mv (.v (.str []))), []⟩]
def c58_1 : ACode := .ops [
 ⟨some 4, none, .q (.mv (.t 0)), []⟩,
 ⟨some 5, none, .q (.bin .lss (.t 4) (.v (.int .i64 0))), []⟩,
 ⟨some 6, none, .q (.mv (.t 5)), []⟩,
 ⟨some 7, some (6, false), .q (.mv (.t 0)), []⟩,
 ⟨some 8, some (6, false), .q (.bin .geq (.t 7) (.v (.int .i64 700))), []⟩,
 ⟨some 9, none, .q (.pick (.t 6) (.v (.bool true)) (.t 8)), []⟩]
def c58_2 : ACode := .ops [
 ⟨some 2, none, .q (.mv (.v (.str []))), []⟩]
def c58_3 : ACode := .seq c58_2 .ret
def c58_4 : ACode := .cond (.t 9) c58_3 .skip
def c58_5 : ACode := .seq c58_1 c58_4
def c58_6 : ACode := .ops [
 ⟨some 3, none, .q (.mv (.v (.str []))), []⟩]
def c58_7 : ACode := .ops [
 ⟨some 10, none, .q (.mv (.t 0)), []⟩,
 ⟨some 11, none, .q (.bin .add (.t 10) (.v (.int .i64 1))), []⟩,
 ⟨some 0, none, .q (.mv (.t 11)), []⟩]
def c58_8 : ACode := .ops [
 ⟨some 12, none, .q (.mv (.t 0)), []⟩,
 ⟨some 13, none, .q (.bin .gtr (.t 12) (.v (.int .i64 0))), []⟩]
def c58_9 : ACode := .cond (.t 13) .skip (.exit 0)
def c58_10 : ACode := .seq c58_8 c58_9
def c58_11 : ACode := .ops [
 ⟨some 17, none, .q (.mv (.t 0)), []⟩,
 ⟨some 18, none, .q (.bin .sub (.t 17) (.v (.int .i64 1))), []⟩,
 ⟨some 19, none, .q (.bin .rem (.t 18) (.v (.int .i64 26))), []⟩,
 ⟨some 20, none, .q (.bin .add (.v (.int .i64 65)) (.t 19)), []⟩,
 ⟨some 21, none, .q (.conv .u8 (.t 20)), []⟩,
 ⟨some 22, none, .q (.bsl 1 [(.t 21)]), []⟩,
 ⟨some 23, none, .q (.b2s (.t 22)), []⟩,
 ⟨some 24, none, .q (.mv (.t 3)), []⟩,
 ⟨some 25, none, .q (.bin .add (.t 23) (.t 24)), []⟩,
 ⟨some 3, none, .q (.mv (.t 25)), []⟩]
def c58_12 : ACode := .block 1 c58_11
def c58_13 : ACode := .ops [
 ⟨some 14, none, .q (.mv (.t 0)), []⟩,
 ⟨some 15, none, .q (.bin .sub (.t 14) (.v (.int .i64 1))), []⟩,
 ⟨some 16, none, .q (.bin .quo (.t 15) (.v (.int .i64 26))), []⟩,
 ⟨some 0, none, .q (.mv (.t 16)), []⟩]
def c58_14 : ACode := .seq c58_12 c58_13
def c58_15 : ACode := .seq c58_10 c58_14
def c58_16 : ACode := .loop c58_15
def c58_17 : ACode := .block 0 c58_16
def c58_18 : ACode := .seq c58_7 c58_17
def c58_19 : ACode := .ops [
 ⟨some 26, none, .q (.mv (.t 3)), []⟩,
 ⟨some 2, none, .q (.mv (.t 26)), []⟩]
def c58_20 : ACode := .seq c58_19 .ret
def c58_21 : ACode := .seq c58_18 c58_20
def c58_22 : ACode := .seq c58_6 c58_21
def c58_23 : ACode := .seq c58_5 c58_22
def c58_24 : ACode := .seq c58_0 c58_23
@[go_sem] def c58_0_wp := wp_of c58_0.eq_1
@[go_sem] def c58_1_wp := wp_of c58_1.eq_1
@[go_sem] def c58_2_wp := wp_of c58_2.eq_1
@[go_sem] def c58_3_wp := wp_of c58_3.eq_1
@[go_sem] def c58_4_wp := wp_of c58_4.eq_1
@[go_sem] def c58_5_wp := wp_of c58_5.eq_1
@[go_sem] def c58_6_wp := wp_of c58_6.eq_1
@[go_sem] def c58_7_wp := wp_of c58_7.eq_1
@[go_sem] def c58_8_wp := wp_of c58_8.eq_1
@[go_sem] def c58_9_wp := wp_of c58_9.eq_1
@[go_sem] def c58_10_wp := wp_of c58_10.eq_1
@[go_sem] def c58_11_wp := wp_of c58_11.eq_1
@[go_sem] def c58_12_wp := wp_of c58_12.eq_1
@[go_sem] def c58_13_wp := wp_of c58_13.eq_1
@[go_sem] def c58_14_wp := wp_of c58_14.eq_1
@[go_sem] def c58_15_wp := wp_of c58_15.eq_1
@[go_sem] def c58_16_wp := wp_of c58_16.eq_1
@[go_sem] def c58_17_wp := wp_of c58_17.eq_1
@[go_sem] def c58_18_wp := wp_of c58_18.eq_1
@[go_sem] def c58_19_wp := wp_of c58_19.eq_1
@[go_sem] def c58_20_wp := wp_of c58_20.eq_1
@[go_sem] def c58_21_wp := wp_of c58_21.eq_1
@[go_sem] def c58_22_wp := wp_of c58_22.eq_1
@[go_sem] def c58_23_wp := wp_of c58_23.eq_1
@[go_sem] def c58_24_wp := wp_of c58_24.eq_1
def c58 : AFn := ⟨27, [.t 2], c58_24⟩
theorem c58_ok : compF Tryz.prog Tryz.f58 = some c58 := by kernel_rfl
theorem a58 {args : List AV} {σ : ASt} {R : AV → ASt → Prop} (hl : args.length ≤ 27) (h : c58_24.wp Tryz.prog (RetQ [.t 2] R) (init args) σ) : ACalls Tryz.prog 58 args σ R := acalls_of Tryz.func58 c58_ok hl h
/-! 121: tabular/addr.Column -/
def c121_0 : ACode := .ops [
 ⟨some 2, none, .q (.mv (.v (.int .i64 0))), []⟩,
 ⟨some 3, none, .q (.mv (.v (.bool false))), []⟩]
def c121_1 : ACode := .ops [
 ⟨some 4, none, .q (.mv (.v (.int .i64 0))), []⟩]
def c121_2 : ACode := .ops [
 ⟨some 7, none, .q (.mv (.t 0)), []⟩,
 ⟨some 8, none, .e (.s2b (.t 7)), []⟩,
 ⟨some 9, none, .q (.len (.t 8)), []⟩,
 ⟨some 10, none, .q (.mv (.v (.int .i64 0))), []⟩]
def c121_3 : ACode := .ops [
 ⟨some 11, none, .q (.bin .lss (.t 10) (.t 9)), []⟩]
def c121_4 : ACode := .cond (.t 11) .skip (.exit 0)
def c121_5 : ACode := .ops [
 ⟨some 12, none, .q (.ia 1 (.t 8) (.t 10)), []⟩,
 ⟨some 13, none, .q (.ld none (.t 12)), []⟩,
 ⟨some 6, none, .q (.mv (.t 13)), []⟩]
def c121_6 : ACode := .ops [
 ⟨some 14, none, .q (.mv (.t 6)), []⟩,
 ⟨some 15, none, .e (.call 120 [(.t 14)]), []⟩,
 ⟨some 16, none, .q (.bin .eql (.t 15) (.v (.int .i64 0))), []⟩,
 ⟨some 17, none, .q (.mv (.t 16)), []⟩,
 ⟨some 18, some (17, false), .q (.mv (.t 4)), []⟩,
 ⟨some 19, some (17, false), .q (.bin .gtr (.t 18) (.v (.int .i64 700))), []⟩,
 ⟨some 20, none, .q (.pick (.t 17) (.v (.bool true)) (.t 19)), []⟩]
def c121_7 : ACode := .ops [
 ⟨some 2, none, .q (.mv (.v (.int .i64 0))), []⟩,
 ⟨some 3, none, .q (.mv (.v (.bool false))), []⟩]
def c121_8 : ACode := .seq c121_7 .ret
def c121_9 : ACode := .cond (.t 20) c121_8 .skip
def c121_10 : ACode := .seq c121_6 c121_9
def c121_11 : ACode := .ops [
 ⟨some 21, none, .q (.mv (.t 4)), []⟩,
 ⟨some 22, none, .q (.bin .mul (.v (.int .i64 26)) (.t 21)), []⟩,
 ⟨some 23, none, .q (.mv (.t 6)), []⟩,
 ⟨some 24, none, .e (.call 120 [(.t 23)]), []⟩,
 ⟨some 25, none, .q (.bin .add (.t 22) (.t 24)), []⟩,
 ⟨some 4, none, .q (.mv (.t 25)), []⟩]
def c121_12 : ACode := .seq c121_10 c121_11
def c121_13 : ACode := .seq c121_5 c121_12
def c121_14 : ACode := .block 1 c121_13
def c121_15 : ACode := .ops [
 ⟨some 26, none, .q (.bin .add (.t 10) (.v (.int .i64 1))), []⟩,
 ⟨some 10, none, .q (.mv (.t 26)), []⟩]
def c121_16 : ACode := .seq c121_14 c121_15
def c121_17 : ACode := .seq c121_4 c121_16
def c121_18 : ACode := .seq c121_3 c121_17
def c121_19 : ACode := .loop c121_18
def c121_20 : ACode := .block 0 c121_19
def c121_21 : ACode := .seq c121_2 c121_20
def c121_22 : ACode := .ops [
 ⟨some 27, none, .q (.mv (.t 4)), []⟩,
 ⟨some 28, none, .q (.bin .lss (.t 27) (.v (.int .i64 1))), []⟩,
 ⟨some 29, none, .q (.mv (.t 28)), []⟩,
 ⟨some 30, some (29, false), .q (.mv (.t 4)), []⟩,
 ⟨some 31, some (29, false), .q (.bin .gtr (.t 30) (.v (.int .i64 700))), []⟩,
 ⟨some 32, none, .q (.pick (.t 29) (.v (.bool true)) (.t 31)), []⟩]
def c121_23 : ACode := .ops [
 ⟨some 2, none, .q (.mv (.v (.int .i64 0))), []⟩,
 ⟨some 3, none, .q (.mv (.v (.bool false))), []⟩]
def c121_24 : ACode := .seq c121_23 .ret
def c121_25 : ACode := .cond (.t 32) c121_24 .skip
def c121_26 : ACode := .seq c121_22 c121_25
def c121_27 : ACode := .ops [
 ⟨some 33, none, .q (.mv (.t 4)), []⟩,
 ⟨some 34, none, .q (.bin .sub (.t 33) (.v (.int .i64 1))), []⟩,
 ⟨some 2, none, .q (.mv (.t 34)), []⟩,
 ⟨some 3, none, .q (.mv (.v (.bool true))), []⟩]
def c121_28 : ACode := .seq c121_27 .ret
def c121_29 : ACode := .seq c121_26 c121_28
def c121_30 : ACode := .seq c121_21 c121_29
def c121_31 : ACode := .seq c121_1 c121_30
def c121_32 : ACode := .seq c121_0 c121_31
@[go_sem] def c121_0_wp := wp_of c121_0.eq_1
@[go_sem] def c121_1_wp := wp_of c121_1.eq_1
@[go_sem] def c121_2_wp := wp_of c121_2.eq_1
@[go_sem] def c121_3_wp := wp_of c121_3.eq_1
@[go_sem] def c121_4_wp := wp_of c121_4.eq_1
@[go_sem] def c121_5_wp := wp_of c121_5.eq_1
@[go_sem] def c121_6_wp := wp_of c121_6.eq_1
@[go_sem] def c121_7_wp := wp_of c121_7.eq_1
@[go_sem] def c121_8_wp := wp_of c121_8.eq_1
@[go_sem] def c121_9_wp := wp_of c121_9.eq_1
@[go_sem] def c121_10_wp := wp_of c121_10.eq_1
@[go_sem] def c121_11_wp := wp_of c121_11.eq_1
@[go_sem] def c121_12_wp := wp_of c121_12.eq_1
@[go_sem] def c121_13_wp := wp_of c121_13.eq_1
@[go_sem] def c121_14_wp := wp_of c121_14.eq_1
@[go_sem] def c121_15_wp := wp_of c121_15.eq_1
@[go_sem] def c121_16_wp := wp_of c121_16.eq_1
@[go_sem] def c121_17_wp := wp_of c121_17.eq_1
@[go_sem] def c121_18_wp := wp_of c121_18.eq_1
@[go_sem] def c121_19_wp := wp_of c121_19.eq_1
@[go_sem] def c121_20_wp := wp_of c121_20.eq_1
@[go_sem] def c121_21_wp := wp_of c121_21.eq_1
@[go_sem] def c121_22_wp := wp_of c121_22.eq_1
@[go_sem] def c121_23_wp := wp_of c121_23.eq_1
@[go_sem] def c121_24_wp := wp_of c121_24.eq_1
@[go_sem] def c121_25_wp := wp_of c121_25.eq_1
@[go_sem] def c121_26_wp := wp_of c121_26.eq_1
@[go_sem] def c121_27_wp := wp_of c121_27.eq_1
@[go_sem] def c121_28_wp := wp_of c121_28.eq_1
@[go_sem] def c121_29_wp := wp_of c121_29.eq_1
@[go_sem] def c121_30_wp := wp_of c121_30.eq_1
@[go_sem] def c121_31_wp := wp_of c121_31.eq_1
@[go_sem] def c121_32_wp := wp_of c121_32.eq_1
def c121 : AFn := ⟨35, [.t 2, .t 3], c121_32⟩
theorem c121_ok : compF Tryz.prog Tryz.f121 = some c121 := by kernel_rfl
theorem a121 {args : List AV} {σ : ASt} {R : AV → ASt → Prop} (hl : args.length ≤ 35) (h : c121_32.wp Tryz.prog (RetQ [.t 2, .t 3] R) (init args) σ) : ACalls Tryz.prog 121 args σ R := acalls_of Tryz.func121 c121_ok hl h
end Go.A
namespace Go.A
open Go.Proofs
def lettersF : Nat → Nat → List UInt8
 | 0, _ => []
 | k + 1, n => if n = 0 then [] else lettersF k ((n - 1) / 26) ++ [UInt8.ofNat (65 + (n - 1) % 26)]
def lettersP (col : Int) : List UInt8 := if col < 0 ∨ 700 ≤ col then [] else lettersF 4 (col + 1).toNat
theorem letters_ok (col : Int) : Pure Tryz.prog 58 [.int .i64 col] (.str (lettersP col)) := by
 intro σ
 obtain ⟨q, hq⟩ : ∃ q, lettersP col = q := ⟨_, rfl⟩
 rw [hq]
 unfold lettersP at hq
 refine a58 (by simp) ?_
 by_cases hc : col < 0 ∨ 700 ≤ col
 ·rw [if_pos hc] at hq
  subst hq
  repeat' (first | (simp (disch := first | assumption | omega) only [go_sem, reduceCtorEq, Nat.reduceEqDiff, ↓reduceIte]) | with_reducible refine gC_d (fun h => ?_) (fun h => ?_) | with_reducible refine gC_dn (fun h => ?_) (fun h => ?_) | with_reducible refine condC_d (fun h => ?_) (fun h => ?_) | with_reducible refine condC_n (fun h => ?_) (fun h => ?_) | with_reducible refine condC_b (fun h => ?_) (fun h => ?_) | with_reducible refine boxC_by ?_ fun b hb => ?_)
  all_goals first | (exfalso; omega) | exact retC_by (Drop.refl _) (.refl _) ⟨rfl, rfl⟩
 ·rw [if_neg hc] at hq
  obtain ⟨N, hN⟩ : ∃ N, (col + 1).toNat = N := ⟨_, rfl⟩
  rw [hN] at hq
  have h0 : ¬ col < 0 := by omega
  have h1 : ¬ 700 ≤ col := by omega
  have hc1 : col + 1 = (N : Int) := by omega
  simp (disch := first | assumption | omega) only [go_sem, reduceCtorEq, Nat.reduceEqDiff, ↓reduceIte, h0, h1, hc1]
  refine wp_loop_by (fun (i : Nat × Nat × List UInt8) a σ' => i.2.1 < 26 ^ i.1 ∧ i.1 ≤ 4 ∧ i.2.2.length + i.1 = 4 ∧ q = lettersF i.1 i.2.1 ++ i.2.2 ∧ a 0 = .int .i64 i.2.1 ∧ a 3 = .str i.2.2 ∧ σ' = σ) (fun i => i.1) (4, N, []) (Dr.now ⟨by dsimp only; omega, by simp, by simp, by simp [hq], ?_, ?_, rfl⟩) ?_
  ·simp (disch := first | assumption | omega) only [go_sem, ↓reduceIte]
  ·simp (disch := first | assumption | omega) only [go_sem, reduceCtorEq, Nat.reduceEqDiff, ↓reduceIte]
  rintro ⟨k, n, s⟩ a σ1 ⟨hn, hk, hs, hqe, h0, h3, rfl⟩
  dsimp only at hn hk hs hqe h0 h3
  by_cases hz : n = 0
  ·subst hz
   simp (disch := first | assumption | omega) only [go_sem, Nat.reduceEqDiff, Int.reduceLT, ↓reduceIte, h0, h3]
   refine retC_by (Drop.refl _) (.refl _) ⟨?_, rfl⟩
   have e : lettersF k 0 = [] := by cases k <;> rfl
   rw [hqe, e]; rfl
  ·obtain ⟨m, rfl⟩ : ∃ m, n = m + 1 := ⟨n - 1, by omega⟩
   have hb : (m : Int) < 456976 := by
    have := Nat.pow_le_pow_right (n := 26) (by omega) hk
    omega
   have hp : 0 < (m : Int) + 1 := by omega
   have e1 : (m : Int) + 1 - 1 = m := by omega
   have e2 : (m : Int).tmod 26 = ((m % 26 : Nat) : Int) := rfl
   have e3 : (m : Int).tdiv 26 = ((m / 26 : Nat) : Int) := rfl
   have e4 : (65 + ((m % 26 : Nat) : Int)).toNat = 65 + m % 26 := by omega
   have hk0 : k ≠ 0 := by rintro rfl; simp at hn
   obtain ⟨k, rfl⟩ : ∃ k', k = k' + 1 := ⟨k - 1, by omega⟩
   have hs1 : 1 + s.length ≤ 9223372036854775807 := by omega
   simp (disch := first | assumption | omega) only [go_sem, reduceCtorEq, Nat.reduceEqDiff, ↓reduceIte, Bool.true_and, h0, h3, hp, e1, e2, e3, e4]
   refine ⟨(k, m / 26, UInt8.ofNat (65 + m % 26) :: s), by dsimp only; omega, Dr.now ⟨?_, by dsimp only; omega, by simp; omega, ?_, ?_, ?_, rfl⟩⟩
   ·dsimp only
    rw [Nat.pow_succ] at hn
    omega
   ·dsimp only
    rw [hqe, lettersF, if_neg (by omega)]
    simp
   ·simp (disch := first | assumption | omega) only [go_sem, ↓reduceIte]
   ·simp (disch := first | assumption | omega) only [go_sem, reduceCtorEq, Nat.reduceEqDiff, ↓reduceIte]
def colF : Int → List UInt8 → Option Int
 | n, [] => some n
 | n, c :: cs => if letterP c.toNat = 0 ∨ 700 < n then none else colF (26 * n + letterP c.toNat) cs
def columnP (l : List UInt8) : Int × Bool :=
 match colF 0 l with
 | some n => if n < 1 ∨ 700 < n then (0, false) else (n - 1, true)
 | none => (0, false)
theorem letterP_bd (c : Int) : 0 ≤ letterP c ∧ letterP c ≤ 26 := by
 unfold letterP
 split
 ·omega
 ·split <;> omega
theorem column_ok (l : List UInt8) (hl : l.length ≤ 9223372036854775807) : Pure Tryz.prog 121 [.str l] (.tuple [.int .i64 (columnP l).1, .bool (columnP l).2]) := by
 intro σ
 obtain ⟨q, hq⟩ : ∃ q, columnP l = q := ⟨_, rfl⟩
 rw [hq]
 refine a121 (by simp) ?_
 simp (disch := first | assumption | omega) only [go_sem, reduceCtorEq, ↓reduceIte]
 refine s2b_shr ?_
 simp (disch := first | assumption | omega) only [go_sem, ↓reduceIte]
 refine wp_loop_by (fun (i : Nat × Int) a σ' => i.1 ≤ l.length ∧ 0 ≤ i.2 ∧ i.2 ≤ 18226 ∧ colF 0 l = colF i.2 (l.drop i.1) ∧ a 4 = .int .i64 i.2 ∧ a 8 = .sl .shr (bytesAV l) ∧ a 9 = .int .i64 l.length ∧ a 10 = .int .i64 i.1 ∧ a 2 = .int .i64 0 ∧ a 3 = .bool false ∧ σ' = σ) (fun i => l.length - i.1) (0, 0) (Dr.now ⟨by simp, by simp, by simp, rfl, ?_, ?_, ?_, ?_, ?_, ?_, rfl⟩) ?_
 ·simp (disch := first | assumption | omega) only [go_sem, Nat.reduceEqDiff, ↓reduceIte]
 ·simp (disch := first | assumption | omega) only [go_sem, Nat.reduceEqDiff, ↓reduceIte]
 ·simp (disch := first | assumption | omega) only [go_sem, Nat.reduceEqDiff, ↓reduceIte]
 ·simp (disch := first | assumption | omega) only [go_sem, ↓reduceIte]
 ·simp (disch := first | assumption | omega) only [go_sem, Nat.reduceEqDiff, ↓reduceIte]
 ·simp (disch := first | assumption | omega) only [go_sem, Nat.reduceEqDiff, ↓reduceIte]
 rintro ⟨i, n⟩ a σ1 ⟨hi, hn0, hn1, hcol, h4, h8, h9, h10, h2, h3, rfl⟩
 dsimp only at hi hn0 hn1 hcol h4 h10
 by_cases hlt : i < l.length
 ·have hidx : l[i]? = some (l[i]'hlt) := List.getElem?_eq_getElem hlt
  obtain ⟨c, hc⟩ : ∃ c, l[i]'hlt = c := ⟨_, rfl⟩
  rw [hc] at hidx
  have hcb : (c.toNat : Int) ≤ 255 := by have := c.toNat_lt; omega
  have hbd := letterP_bd c.toNat
  rw [List.drop_eq_getElem_cons hlt, hc, colF] at hcol
  repeat' (first | (simp (disch := first | assumption | omega) only [go_sem, Nat.reduceEqDiff, ↓reduceIte, h4, h8, h9, h10, hidx]) | refine (letter_ok c.toNat (by omega) hcb).use ?_ | with_reducible refine gC_d (fun h => ?_) (fun h => ?_) | with_reducible refine gC_dn (fun h => ?_) (fun h => ?_) | with_reducible refine condC_d (fun h => ?_) (fun h => ?_) | with_reducible refine condC_n (fun h => ?_) (fun h => ?_) | with_reducible refine condC_b (fun h => ?_) (fun h => ?_) | with_reducible refine boxC_by ?_ fun b hb => ?_)
  ·rw [if_pos (by omega)] at hcol
   unfold columnP at hq
   rw [hcol] at hq
   subst hq
   exact retC_by (Drop.refl _) (.refl _) ⟨rfl, rfl⟩
  ·rename_i hz
   rw [if_neg (by omega)] at hcol
   refine ⟨(i + 1, 26 * n + letterP c.toNat), by dsimp only; omega, Dr.now ⟨by dsimp only; omega, by dsimp only; omega, by dsimp only; omega, hcol, ?_, ?_, ?_, ?_, ?_, ?_, rfl⟩⟩
   ·simp (disch := first | assumption | omega) only [go_sem, Nat.reduceEqDiff, ↓reduceIte]
   ·simp (disch := first | assumption | omega) only [go_sem, Nat.reduceEqDiff, ↓reduceIte, h8]
   ·simp (disch := first | assumption | omega) only [go_sem, Nat.reduceEqDiff, ↓reduceIte, h9]
   ·simp (disch := first | assumption | omega) only [go_sem, ↓reduceIte]
   ·simp (disch := first | assumption | omega) only [go_sem, Nat.reduceEqDiff, ↓reduceIte, h2]
   ·simp (disch := first | assumption | omega) only [go_sem, Nat.reduceEqDiff, ↓reduceIte, h3]
  ·rw [if_pos (by omega)] at hcol
   unfold columnP at hq
   rw [hcol] at hq
   subst hq
   exact retC_by (Drop.refl _) (.refl _) ⟨rfl, rfl⟩
 ·have e : l.drop i = [] := List.drop_eq_nil_of_le (by omega)
  rw [e, colF] at hcol
  unfold columnP at hq
  rw [hcol] at hq
  repeat' (first | (simp (disch := first | assumption | omega) only [go_sem, Nat.reduceEqDiff, ↓reduceIte, h4, h9, h10]) | with_reducible refine gC_d (fun h => ?_) (fun h => ?_) | with_reducible refine gC_dn (fun h => ?_) (fun h => ?_) | with_reducible refine condC_d (fun h => ?_) (fun h => ?_) | with_reducible refine condC_n (fun h => ?_) (fun h => ?_) | with_reducible refine condC_b (fun h => ?_) (fun h => ?_) | with_reducible refine boxC_by ?_ fun b hb => ?_)
  all_goals refine retC_by (Drop.refl _) (.refl _) ⟨?_, rfl⟩
  all_goals (simp only [resV_two] at *; split at hq) <;> first | (subst hq; rfl) | (exfalso; omega)
end Go.A
namespace Go.A
open Go.Proofs
/-! 104: tabular/addr.Read -/
def c104_0 : ACode := .ops [
 ⟨some 2, none, .e (.alloc [(.int .i64 0), (.int .i64 0), (.bool false), (.bool false)]), []⟩,
 ⟨some 3, none, .q (.mv (.v (.int .i64 0))), []⟩]
def c104_1 : ACode := .ops [
 ⟨some 4, none, .e (.alloc [(.int .i64 0), (.int .i64 0), (.bool false), (.bool false)]), []⟩]
def c104_2 : ACode := .ops [
 ⟨some 5, none, .q (.mv (.v (.int .i64 0))), []⟩]
def c104_3 : ACode := .ops [
 ⟨some 11, none, .q (.mv (.t 5)), []⟩,
 ⟨some 12, none, .q (.mv (.t 0)), []⟩,
 ⟨some 13, none, .q (.lenS (.t 12)), []⟩,
 ⟨some 14, none, .q (.bin .lss (.t 11) (.t 13)), []⟩,
 ⟨some 15, none, .q (.mv (.t 14)), []⟩,
 ⟨some 16, some (15, true), .q (.mv (.t 0)), []⟩,
 ⟨some 17, some (15, true), .q (.mv (.t 5)), []⟩,
 ⟨some 18, some (15, true), .q (.idx (.t 16) (.t 17)), []⟩,
 ⟨some 19, some (15, true), .q (.bin .eql (.t 18) (.v (.int .u8 36))), []⟩,
 ⟨some 20, none, .q (.pick (.t 15) (.t 19) (.v (.bool false))), []⟩]
def c104_4 : ACode := .ops [
 ⟨some 21, none, .q (.fa 3 (.t 4)), []⟩,
 ⟨none, none, .e (.store 1 (.t 21) (.v (.bool true))), []⟩]
def c104_5 : ACode := .ops [
 ⟨some 22, none, .q (.mv (.t 5)), []⟩,
 ⟨some 23, none, .q (.bin .add (.t 22) (.v (.int .i64 1))), []⟩,
 ⟨some 5, none, .q (.mv (.t 23)), []⟩]
def c104_6 : ACode := .seq c104_4 c104_5
def c104_7 : ACode := .cond (.t 20) c104_6 .skip
def c104_8 : ACode := .seq c104_3 c104_7
def c104_9 : ACode := .ops [
 ⟨some 24, none, .q (.mv (.t 5)), []⟩,
 ⟨some 6, none, .q (.mv (.t 24)), []⟩]
def c104_10 : ACode := .ops [
 ⟨some 25, none, .q (.mv (.t 5)), []⟩,
 ⟨some 26, none, .q (.mv (.t 0)), []⟩,
 ⟨some 27, none, .q (.lenS (.t 26)), []⟩,
 ⟨some 28, none, .q (.bin .lss (.t 25) (.t 27)), []⟩,
 ⟨some 29, none, .q (.mv (.t 28)), []⟩,
 ⟨some 30, some (29, true), .q (.mv (.t 0)), []⟩,
 ⟨some 31, some (29, true), .q (.mv (.t 5)), []⟩,
 ⟨some 32, some (29, true), .q (.idx (.t 30) (.t 31)), []⟩,
 ⟨some 33, some (29, true), .e (.call 120 [(.t 32)]), []⟩,
 ⟨some 34, some (29, true), .q (.bin .gtr (.t 33) (.v (.int .i64 0))), []⟩,
 ⟨some 35, none, .q (.pick (.t 29) (.t 34) (.v (.bool false))), []⟩]
def c104_11 : ACode := .cond (.t 35) .skip (.exit 0)
def c104_12 : ACode := .seq c104_10 c104_11
def c104_13 : ACode := .ops [
 ⟨some 36, none, .q (.mv (.t 5)), []⟩,
 ⟨some 37, none, .q (.bin .add (.t 36) (.v (.int .i64 1))), []⟩,
 ⟨some 5, none, .q (.mv (.t 37)), []⟩]
def c104_14 : ACode := .block 1 c104_13
def c104_15 : ACode := .seq c104_12 c104_14
def c104_16 : ACode := .loop c104_15
def c104_17 : ACode := .block 0 c104_16
def c104_18 : ACode := .ops [
 ⟨some 39, none, .q (.mv (.t 0)), []⟩,
 ⟨some 40, none, .q (.mv (.t 6)), []⟩,
 ⟨some 41, none, .q (.mv (.t 5)), []⟩,
 ⟨some 42, none, .q (.sls (true, 0) (.t 39) (.t 40) (.t 41)), []⟩,
 ⟨some 43, none, .e (.call 121 [(.t 42)]), []⟩,
 ⟨some 38, none, .q (.mv (.t 43)), []⟩,
 ⟨some 44, none, .q (.ext 0 (.t 38)), []⟩,
 ⟨some 45, none, .q (.ext 1 (.t 38)), []⟩,
 ⟨some 7, none, .q (.mv (.t 44)), []⟩,
 ⟨some 8, none, .q (.mv (.t 45)), []⟩]
def c104_19 : ACode := .ops [
 ⟨some 46, none, .q (.mv (.t 8)), []⟩,
 ⟨some 47, none, .q (.un .not (.t 46)), []⟩]
def c104_20 : ACode := .ops [
 ⟨some 48, none, .q (.build [(.int .i64 0), (.int .i64 0), (.bool false), (.bool false)] []), []⟩,
 ⟨none, none, .e (.store 4 (.t 2) (.t 48)), []⟩,
 ⟨some 3, none, .q (.mv (.v (.int .i64 0))), []⟩]
def c104_21 : ACode := .seq c104_20 .ret
def c104_22 : ACode := .cond (.t 47) c104_21 .skip
def c104_23 : ACode := .seq c104_19 c104_22
def c104_24 : ACode := .ops [
 ⟨some 49, none, .q (.mv (.t 5)), []⟩,
 ⟨some 50, none, .q (.mv (.t 0)), []⟩,
 ⟨some 51, none, .q (.lenS (.t 50)), []⟩,
 ⟨some 52, none, .q (.bin .lss (.t 49) (.t 51)), []⟩,
 ⟨some 53, none, .q (.mv (.t 52)), []⟩,
 ⟨some 54, some (53, true), .q (.mv (.t 0)), []⟩,
 ⟨some 55, some (53, true), .q (.mv (.t 5)), []⟩,
 ⟨some 56, some (53, true), .q (.idx (.t 54) (.t 55)), []⟩,
 ⟨some 57, some (53, true), .q (.bin .eql (.t 56) (.v (.int .u8 36))), []⟩,
 ⟨some 58, none, .q (.pick (.t 53) (.t 57) (.v (.bool false))), []⟩]
def c104_25 : ACode := .ops [
 ⟨some 59, none, .q (.fa 2 (.t 4)), []⟩,
 ⟨none, none, .e (.store 1 (.t 59) (.v (.bool true))), []⟩]
def c104_26 : ACode := .ops [
 ⟨some 60, none, .q (.mv (.t 5)), []⟩,
 ⟨some 61, none, .q (.bin .add (.t 60) (.v (.int .i64 1))), []⟩,
 ⟨some 5, none, .q (.mv (.t 61)), []⟩]
def c104_27 : ACode := .seq c104_25 c104_26
def c104_28 : ACode := .cond (.t 58) c104_27 .skip
def c104_29 : ACode := .seq c104_24 c104_28
def c104_30 : ACode := .ops [
 ⟨some 62, none, .q (.mv (.t 5)), []⟩,
 ⟨some 9, none, .q (.mv (.v (.int .i64 0))), []⟩,
 ⟨some 10, none, .q (.mv (.t 62)), []⟩]
def c104_31 : ACode := .ops [
 ⟨some 63, none, .q (.mv (.t 5)), []⟩,
 ⟨some 64, none, .q (.mv (.t 0)), []⟩,
 ⟨some 65, none, .q (.lenS (.t 64)), []⟩,
 ⟨some 66, none, .q (.bin .lss (.t 63) (.t 65)), []⟩,
 ⟨some 67, none, .q (.mv (.t 66)), []⟩,
 ⟨some 68, some (67, true), .q (.mv (.t 0)), []⟩,
 ⟨some 69, some (67, true), .q (.mv (.t 5)), []⟩,
 ⟨some 70, some (67, true), .q (.idx (.t 68) (.t 69)), []⟩,
 ⟨some 71, some (67, true), .q (.bin .geq (.t 70) (.v (.int .u8 48))), []⟩,
 ⟨some 72, none, .q (.pick (.t 67) (.t 71) (.v (.bool false))), []⟩,
 ⟨some 73, none, .q (.mv (.t 72)), []⟩,
 ⟨some 74, some (73, true), .q (.mv (.t 0)), []⟩,
 ⟨some 75, some (73, true), .q (.mv (.t 5)), []⟩,
 ⟨some 76, some (73, true), .q (.idx (.t 74) (.t 75)), []⟩,
 ⟨some 77, some (73, true), .q (.bin .leq (.t 76) (.v (.int .u8 57))), []⟩,
 ⟨some 78, none, .q (.pick (.t 73) (.t 77) (.v (.bool false))), []⟩]
def c104_32 : ACode := .cond (.t 78) .skip (.exit 2)
def c104_33 : ACode := .seq c104_31 c104_32
def c104_34 : ACode := .ops [
 ⟨some 79, none, .q (.mv (.t 9)), []⟩,
 ⟨some 80, none, .q (.bin .mul (.v (.int .i64 10)) (.t 79)), []⟩,
 ⟨some 81, none, .q (.mv (.t 0)), []⟩,
 ⟨some 82, none, .q (.mv (.t 5)), []⟩,
 ⟨some 83, none, .q (.idx (.t 81) (.t 82)), []⟩,
 ⟨some 84, none, .q (.bin .sub (.t 83) (.v (.int .u8 48))), []⟩,
 ⟨some 85, none, .q (.conv .i64 (.t 84)), []⟩,
 ⟨some 86, none, .q (.bin .add (.t 80) (.t 85)), []⟩,
 ⟨some 87, none, .q (.mnx false (.t 86) (.v (.int .i64 3001))), []⟩,
 ⟨some 9, none, .q (.mv (.t 87)), []⟩]
def c104_35 : ACode := .ops [
 ⟨some 88, none, .q (.mv (.t 5)), []⟩,
 ⟨some 89, none, .q (.bin .add (.t 88) (.v (.int .i64 1))), []⟩,
 ⟨some 5, none, .q (.mv (.t 89)), []⟩]
def c104_36 : ACode := .seq c104_34 c104_35
def c104_37 : ACode := .block 3 c104_36
def c104_38 : ACode := .seq c104_33 c104_37
def c104_39 : ACode := .loop c104_38
def c104_40 : ACode := .block 2 c104_39
def c104_41 : ACode := .ops [
 ⟨some 90, none, .q (.mv (.t 9)), []⟩,
 ⟨some 91, none, .q (.bin .lss (.t 90) (.v (.int .i64 1))), []⟩,
 ⟨some 92, none, .q (.mv (.t 91)), []⟩,
 ⟨some 93, some (92, false), .q (.mv (.t 9)), []⟩,
 ⟨some 94, some (92, false), .q (.bin .gtr (.t 93) (.v (.int .i64 3000))), []⟩,
 ⟨some 95, none, .q (.pick (.t 92) (.v (.bool true)) (.t 94)), []⟩,
 ⟨some 96, none, .q (.mv (.t 95)), []⟩,
 ⟨some 97, some (96, false), .q (.mv (.t 0)), []⟩,
 ⟨some 98, some (96, false), .q (.mv (.t 10)), []⟩,
 ⟨some 99, some (96, false), .q (.idx (.t 97) (.t 98)), []⟩,
 ⟨some 100, some (96, false), .q (.bin .eql (.t 99) (.v (.int .u8 48))), []⟩,
 ⟨some 101, none, .q (.pick (.t 96) (.v (.bool true)) (.t 100)), []⟩,
 ⟨some 102, none, .q (.mv (.t 101)), []⟩,
 ⟨some 103, some (102, false), .q (.mv (.t 0)), []⟩,
 ⟨some 104, some (102, false), .q (.mv (.t 5)), []⟩,
 ⟨some 105, some (102, false), .e (.call 122 [(.t 103), (.t 104)]), []⟩,
 ⟨some 106, some (102, false), .e (.call 120 [(.t 105)]), []⟩,
 ⟨some 107, some (102, false), .q (.bin .gtr (.t 106) (.v (.int .i64 0))), []⟩,
 ⟨some 108, none, .q (.pick (.t 102) (.v (.bool true)) (.t 107)), []⟩,
 ⟨some 109, none, .q (.mv (.t 108)), []⟩,
 ⟨some 110, some (109, false), .q (.mv (.t 0)), []⟩,
 ⟨some 111, some (109, false), .q (.mv (.t 5)), []⟩,
 ⟨some 112, some (109, false), .e (.call 122 [(.t 110), (.t 111)]), []⟩,
 ⟨some 113, some (109, false), .q (.bin .eql (.t 112) (.v (.int .u8 95))), []⟩,
 ⟨some 114, none, .q (.pick (.t 109) (.v (.bool true)) (.t 113)), []⟩]
def c104_42 : ACode := .ops [
 ⟨some 115, none, .q (.build [(.int .i64 0), (.int .i64 0), (.bool false), (.bool false)] []), []⟩,
 ⟨none, none, .e (.store 4 (.t 2) (.t 115)), []⟩,
 ⟨some 3, none, .q (.mv (.v (.int .i64 0))), []⟩]
def c104_43 : ACode := .seq c104_42 .ret
def c104_44 : ACode := .cond (.t 114) c104_43 .skip
def c104_45 : ACode := .seq c104_41 c104_44
def c104_46 : ACode := .ops [
 ⟨some 116, none, .q (.mv (.t 9)), []⟩,
 ⟨some 117, none, .q (.bin .sub (.t 116) (.v (.int .i64 1))), []⟩,
 ⟨some 118, none, .q (.mv (.t 7)), []⟩,
 ⟨some 119, none, .q (.fa 0 (.t 4)), []⟩,
 ⟨none, none, .e (.store 1 (.t 119) (.t 117)), []⟩,
 ⟨some 120, none, .q (.fa 1 (.t 4)), []⟩,
 ⟨none, none, .e (.store 1 (.t 120) (.t 118)), []⟩]
def c104_47 : ACode := .ops [
 ⟨some 121, none, .q (.ld (some 4) (.t 4)), []⟩,
 ⟨some 122, none, .q (.mv (.t 5)), []⟩,
 ⟨none, none, .e (.store 4 (.t 2) (.t 121)), []⟩,
 ⟨some 3, none, .q (.mv (.t 122)), []⟩]
def c104_48 : ACode := .seq c104_47 .ret
def c104_49 : ACode := .seq c104_46 c104_48
def c104_50 : ACode := .seq c104_45 c104_49
def c104_51 : ACode := .seq c104_40 c104_50
def c104_52 : ACode := .seq c104_30 c104_51
def c104_53 : ACode := .seq c104_29 c104_52
def c104_54 : ACode := .seq c104_23 c104_53
def c104_55 : ACode := .seq c104_18 c104_54
def c104_56 : ACode := .seq c104_17 c104_55
def c104_57 : ACode := .seq c104_9 c104_56
def c104_58 : ACode := .seq c104_8 c104_57
def c104_59 : ACode := .seq c104_2 c104_58
def c104_60 : ACode := .seq c104_1 c104_59
def c104_61 : ACode := .seq c104_0 c104_60
@[go_sem] def c104_0_wp := wp_of c104_0.eq_1
@[go_sem] def c104_1_wp := wp_of c104_1.eq_1
@[go_sem] def c104_2_wp := wp_of c104_2.eq_1
@[go_sem] def c104_3_wp := wp_of c104_3.eq_1
@[go_sem] def c104_4_wp := wp_of c104_4.eq_1
@[go_sem] def c104_5_wp := wp_of c104_5.eq_1
@[go_sem] def c104_6_wp := wp_of c104_6.eq_1
@[go_sem] def c104_7_wp := wp_of c104_7.eq_1
@[go_sem] def c104_8_wp := wp_of c104_8.eq_1
@[go_sem] def c104_9_wp := wp_of c104_9.eq_1
@[go_sem] def c104_10_wp := wp_of c104_10.eq_1
@[go_sem] def c104_11_wp := wp_of c104_11.eq_1
@[go_sem] def c104_12_wp := wp_of c104_12.eq_1
@[go_sem] def c104_13_wp := wp_of c104_13.eq_1
@[go_sem] def c104_14_wp := wp_of c104_14.eq_1
@[go_sem] def c104_15_wp := wp_of c104_15.eq_1
@[go_sem] def c104_16_wp := wp_of c104_16.eq_1
@[go_sem] def c104_17_wp := wp_of c104_17.eq_1
@[go_sem] def c104_18_wp := wp_of c104_18.eq_1
@[go_sem] def c104_19_wp := wp_of c104_19.eq_1
@[go_sem] def c104_20_wp := wp_of c104_20.eq_1
@[go_sem] def c104_21_wp := wp_of c104_21.eq_1
@[go_sem] def c104_22_wp := wp_of c104_22.eq_1
@[go_sem] def c104_23_wp := wp_of c104_23.eq_1
@[go_sem] def c104_24_wp := wp_of c104_24.eq_1
@[go_sem] def c104_25_wp := wp_of c104_25.eq_1
@[go_sem] def c104_26_wp := wp_of c104_26.eq_1
@[go_sem] def c104_27_wp := wp_of c104_27.eq_1
@[go_sem] def c104_28_wp := wp_of c104_28.eq_1
@[go_sem] def c104_29_wp := wp_of c104_29.eq_1
@[go_sem] def c104_30_wp := wp_of c104_30.eq_1
@[go_sem] def c104_31_wp := wp_of c104_31.eq_1
@[go_sem] def c104_32_wp := wp_of c104_32.eq_1
@[go_sem] def c104_33_wp := wp_of c104_33.eq_1
@[go_sem] def c104_34_wp := wp_of c104_34.eq_1
@[go_sem] def c104_35_wp := wp_of c104_35.eq_1
@[go_sem] def c104_36_wp := wp_of c104_36.eq_1
@[go_sem] def c104_37_wp := wp_of c104_37.eq_1
@[go_sem] def c104_38_wp := wp_of c104_38.eq_1
@[go_sem] def c104_39_wp := wp_of c104_39.eq_1
@[go_sem] def c104_40_wp := wp_of c104_40.eq_1
@[go_sem] def c104_41_wp := wp_of c104_41.eq_1
@[go_sem] def c104_42_wp := wp_of c104_42.eq_1
@[go_sem] def c104_43_wp := wp_of c104_43.eq_1
@[go_sem] def c104_44_wp := wp_of c104_44.eq_1
@[go_sem] def c104_45_wp := wp_of c104_45.eq_1
@[go_sem] def c104_46_wp := wp_of c104_46.eq_1
@[go_sem] def c104_47_wp := wp_of c104_47.eq_1
@[go_sem] def c104_48_wp := wp_of c104_48.eq_1
@[go_sem] def c104_49_wp := wp_of c104_49.eq_1
@[go_sem] def c104_50_wp := wp_of c104_50.eq_1
@[go_sem] def c104_51_wp := wp_of c104_51.eq_1
@[go_sem] def c104_52_wp := wp_of c104_52.eq_1
@[go_sem] def c104_53_wp := wp_of c104_53.eq_1
@[go_sem] def c104_54_wp := wp_of c104_54.eq_1
@[go_sem] def c104_55_wp := wp_of c104_55.eq_1
@[go_sem] def c104_56_wp := wp_of c104_56.eq_1
@[go_sem] def c104_57_wp := wp_of c104_57.eq_1
@[go_sem] def c104_58_wp := wp_of c104_58.eq_1
@[go_sem] def c104_59_wp := wp_of c104_59.eq_1
@[go_sem] def c104_60_wp := wp_of c104_60.eq_1
@[go_sem] def c104_61_wp := wp_of c104_61.eq_1
def c104 : AFn := ⟨123, [.c 2 (some 4), .t 3], c104_61⟩
theorem c104_ok : compF Tryz.prog Tryz.f104 = some c104 := by kernel_rfl
theorem a104 {args : List AV} {σ : ASt} {R : AV → ASt → Prop} (hl : args.length ≤ 123) (h : c104_61.wp Tryz.prog (RetQ [.c 2 (some 4), .t 3] R) (init args) σ) : ACalls Tryz.prog 104 args σ R := acalls_of Tryz.func104 c104_ok hl h
/-! 122: tabular/addr.at -/
def c122_0 : ACode := .ops [
 ⟨some 4, none, .q (.mv (.v (.int .u8 0))), []⟩]
def c122_1 : ACode := .ops [
 ⟨some 5, none, .q (.mv (.t 1)), []⟩,
 ⟨some 6, none, .q (.mv (.t 0)), []⟩,
 ⟨some 7, none, .q (.lenS (.t 6)), []⟩,
 ⟨some 8, none, .q (.bin .lss (.t 5) (.t 7)), []⟩]
def c122_2 : ACode := .ops [
 ⟨some 9, none, .q (.mv (.t 0)), []⟩,
 ⟨some 10, none, .q (.mv (.t 1)), []⟩,
 ⟨some 11, none, .q (.idx (.t 9) (.t 10)), []⟩,
 ⟨some 4, none, .q (.mv (.t 11)), []⟩]
def c122_3 : ACode := .seq c122_2 .ret
def c122_4 : ACode := .cond (.t 8) c122_3 .skip
def c122_5 : ACode := .seq c122_1 c122_4
def c122_6 : ACode := .ops [
 ⟨some 4, none, .q (.mv (.v (.int .u8 0))), []⟩]
def c122_7 : ACode := .seq c122_6 .ret
def c122_8 : ACode := .seq c122_5 c122_7
def c122_9 : ACode := .seq c122_0 c122_8
@[go_sem] def c122_0_wp := wp_of c122_0.eq_1
@[go_sem] def c122_1_wp := wp_of c122_1.eq_1
@[go_sem] def c122_2_wp := wp_of c122_2.eq_1
@[go_sem] def c122_3_wp := wp_of c122_3.eq_1
@[go_sem] def c122_4_wp := wp_of c122_4.eq_1
@[go_sem] def c122_5_wp := wp_of c122_5.eq_1
@[go_sem] def c122_6_wp := wp_of c122_6.eq_1
@[go_sem] def c122_7_wp := wp_of c122_7.eq_1
@[go_sem] def c122_8_wp := wp_of c122_8.eq_1
@[go_sem] def c122_9_wp := wp_of c122_9.eq_1
def c122 : AFn := ⟨12, [.t 4], c122_9⟩
theorem c122_ok : compF Tryz.prog Tryz.f122 = some c122 := by kernel_rfl
theorem a122 {args : List AV} {σ : ASt} {R : AV → ASt → Prop} (hl : args.length ≤ 12) (h : c122_9.wp Tryz.prog (RetQ [.t 4] R) (init args) σ) : ACalls Tryz.prog 122 args σ R := acalls_of Tryz.func122 c122_ok hl h
end Go.A
namespace Go.A
open Go.Proofs
def atP (l : List UInt8) (i : Nat) : Int := match l[i]? with
 | some c => c.toNat
 | none => 0
theorem atP_bd (l : List UInt8) (i : Nat) : 0 ≤ atP l i ∧ atP l i ≤ 255 := by
 unfold atP
 split
 ·rename_i c _; have := c.toNat_lt; omega
 ·omega
theorem at_ok (l : List UInt8) (i : Nat) (hl : l.length ≤ 9223372036854775807) (hi : i ≤ l.length) : Pure Tryz.prog 122 [.str l, .int .i64 i] (.int .u8 (atP l i)) := by
 intro σ
 refine a122 (by simp) ?_
 unfold atP
 by_cases hlt : i < l.length
 ·have hidx : l[i]? = some (l[i]'hlt) := List.getElem?_eq_getElem hlt
  rw [hidx]
  simp (disch := first | assumption | omega) only [go_sem, reduceCtorEq, Nat.reduceEqDiff, ↓reduceIte, hidx]
  exact retC_by (Drop.refl _) (.refl _) ⟨rfl, rfl⟩
 ·rw [List.getElem?_eq_none (by omega)]
  simp (disch := first | assumption | omega) only [go_sem, reduceCtorEq, Nat.reduceEqDiff, ↓reduceIte]
  exact retC_by (Drop.refl _) (.refl _) ⟨rfl, rfl⟩
def runL (p : UInt8 → Bool) : List UInt8 → Nat
 | [] => 0
 | c :: cs => if p c then runL p cs + 1 else 0
theorem runL_le (p : UInt8 → Bool) : ∀ l, runL p l ≤ l.length
 | [] => Nat.le_refl _
 | c :: cs => by
   have := runL_le p cs
   unfold runL
   split <;> simp <;> omega
def isL (c : UInt8) : Bool := decide (0 < letterP c.toNat)
def isD (c : UInt8) : Bool := decide (48 ≤ c.toNat ∧ c.toNat ≤ 57)
def numF : Int → List UInt8 → Int
 | n, [] => n
 | n, c :: cs => if isD c then numF (min (10 * n + (c.toNat - 48)) 3001) cs else n
def readQ (l : List UInt8) (i : Nat) (col : Int) (ar ac : Bool) : Ref × Int :=
 if numF 0 (l.drop i) < 1 ∨ 3000 < numF 0 (l.drop i) ∨ atP l i = 48 ∨ 0 < letterP (atP l (i + runL isD (l.drop i))) ∨ atP l (i + runL isD (l.drop i)) = 95 then (.zero, 0)
 else (⟨numF 0 (l.drop i) - 1, col, ar, ac⟩, (i + runL isD (l.drop i) : Nat))
set_option maxHeartbeats 1000000 in
theorem read2 (l : List UInt8) (hl : l.length ≤ 9223372036854775000) (σ : ASt) (b0 b1 : Nat) (hb0 : σ b0 = none) (hb1 : σ b1 = none) (n1 : b0 ≠ b1) (i2 : Nat) (hi2 : i2 ≤ l.length) (col : Int) (ar ac : Bool) (q : Ref × Int) (hq : readQ l i2 col ar ac = q)
  (a : AFr) (h0 : a 0 = .str l) (h2 : a 2 = .ptr b0 0) (h4 : a 4 = .ptr b1 0) (h5 : a 5 = .int .i64 i2) (h7 : a 7 = .int .i64 col) :
  ACode.wp Tryz.prog c104_52 (RetQ [.c 2 (some 4), .t 3] fun v σ' => v = .tuple [refAV q.1, .int .i64 q.2] ∧ σ' = σ) a
   ((σ.set b0 (some (.obj [.int .i64 0, .int .i64 0, .bool false, .bool false]))).set b1 (some (.obj [.int .i64 0, .int .i64 0, .bool ar, .bool ac]))) := by
 have n2 : b1 ≠ b0 := Ne.symm n1
 obtain ⟨F, hF⟩ : ∃ F, F = ACode.wp Tryz.prog c104_50 := ⟨_, rfl⟩
 have fin : ∀ (i : Nat) (n : Int) (a : AFr), i2 ≤ i → i ≤ l.length → 0 ≤ n → n ≤ 3001 → (n = 0 ∨ i2 < i) → i2 + runL isD (l.drop i2) = i → numF 0 (l.drop i2) = n →
   a 0 = .str l → a 2 = .ptr b0 0 → a 4 = .ptr b1 0 → a 5 = .int .i64 i → a 7 = .int .i64 col → a 9 = .int .i64 n → a 10 = .int .i64 i2 →
   F (RetQ [.c 2 (some 4), .t 3] fun v σ' => v = .tuple [refAV q.1, .int .i64 q.2] ∧ σ' = σ) a
    ((σ.set b0 (some (.obj [.int .i64 0, .int .i64 0, .bool false, .bool false]))).set b1 (some (.obj [.int .i64 0, .int .i64 0, .bool ar, .bool ac]))) := by
  rw [hF]
  intro i n a hi hil hn0 hn1 hni hrun hnum h0 h2 h4 h5 h7 h9 h10
  unfold readQ at hq
  rw [hrun, hnum] at hq
  by_cases hn : n < 1
  ·rw [if_pos (.inl hn)] at hq
   subst hq
   repeat' (first | (simp (disch := first | assumption | omega) only [go_sem, Nat.reduceEqDiff, Nat.reduceAdd, Nat.reduceLeDiff, ↓reduceIte, Bool.true_and, h2, h9, hn, refAV]) | with_reducible refine gC_d (fun h => ?_) (fun h => ?_) | with_reducible refine gC_dn (fun h => ?_) (fun h => ?_) | with_reducible refine condC_d (fun h => ?_) (fun h => ?_) | with_reducible refine condC_n (fun h => ?_) (fun h => ?_) | with_reducible refine condC_b (fun h => ?_) (fun h => ?_) | with_reducible refine boxC_by ?_ fun b hb => ?_)
   all_goals exact retC_by (by repeat' (first | exact Drop.refl _ | with_reducible refine Drop.off ?_ (by assumption))) (.refl _) ⟨rfl, rfl⟩
  ·have hidx : l[i2]? = some (l[i2]'(by omega)) := List.getElem?_eq_getElem (by omega)
   obtain ⟨c, hc⟩ : ∃ c, l[i2]'(by omega) = c := ⟨_, rfl⟩
   rw [hc] at hidx
   have hat : atP l i2 = c.toNat := by unfold atP; rw [hidx]
   rw [hat] at hq
   have hb := atP_bd l i
   repeat' (first | (simp (disch := first | assumption | omega) only [go_sem, reduceCtorEq, Nat.reduceEqDiff, Nat.reduceAdd, Nat.reduceLeDiff, ↓reduceIte, Bool.true_and, h0, h2, h4, h5, h7, h9, h10, hn, hidx, refAV]) | refine (at_ok l i (by omega) hil).use ?_ | refine (letter_ok _ hb.1 hb.2).use ?_ | with_reducible refine gC_d (fun h => ?_) (fun h => ?_) | with_reducible refine gC_dn (fun h => ?_) (fun h => ?_) | with_reducible refine condC_d (fun h => ?_) (fun h => ?_) | with_reducible refine condC_n (fun h => ?_) (fun h => ?_) | with_reducible refine condC_b (fun h => ?_) (fun h => ?_) | with_reducible refine boxC_by ?_ fun b hb => ?_)
   all_goals first
    | (rw [if_pos (by omega)] at hq
       subst hq
       exact retC_by (by repeat' (first | exact Drop.refl _ | with_reducible refine Drop.off ?_ (by assumption))) (.refl _) ⟨rfl, rfl⟩)
    | (rw [if_neg (by omega)] at hq
       subst hq
       exact retC_by (by repeat' (first | exact Drop.refl _ | with_reducible refine Drop.off ?_ (by assumption))) (.refl _) ⟨rfl, rfl⟩)
 simp (disch := first | assumption | omega) only [go_sem, Nat.reduceEqDiff, ↓reduceIte, h5]
 rw [← hF]
 refine wp_loop_by (fun (i : Nat × Int) a σ' => i2 ≤ i.1 ∧ i.1 ≤ l.length ∧ 0 ≤ i.2 ∧ i.2 ≤ 3001 ∧ (i.2 = 0 ∨ i2 < i.1) ∧ i2 + runL isD (l.drop i2) = i.1 + runL isD (l.drop i.1) ∧ numF 0 (l.drop i2) = numF i.2 (l.drop i.1) ∧
  a 0 = .str l ∧ a 2 = .ptr b0 0 ∧ a 4 = .ptr b1 0 ∧ a 5 = .int .i64 i.1 ∧ a 7 = .int .i64 col ∧ a 9 = .int .i64 i.2 ∧ a 10 = .int .i64 i2 ∧
  σ' = (σ.set b0 (some (.obj [.int .i64 0, .int .i64 0, .bool false, .bool false]))).set b1 (some (.obj [.int .i64 0, .int .i64 0, .bool ar, .bool ac]))) (fun i => l.length - i.1) (i2, 0)
  (Dr.now ⟨Nat.le_refl _, hi2, by simp, by simp, .inl rfl, rfl, rfl, ?_, ?_, ?_, ?_, ?_, ?_, ?_, rfl⟩) ?_
 ·simp (disch := first | assumption | omega) only [go_sem, reduceCtorEq, ↓reduceIte, h0]
 ·simp (disch := first | assumption | omega) only [go_sem, Nat.reduceEqDiff, ↓reduceIte, h2]
 ·simp (disch := first | assumption | omega) only [go_sem, Nat.reduceEqDiff, ↓reduceIte, h4]
 ·simp (disch := first | assumption | omega) only [go_sem, Nat.reduceEqDiff, ↓reduceIte, h5]
 ·simp (disch := first | assumption | omega) only [go_sem, Nat.reduceEqDiff, ↓reduceIte, h7]
 ·simp (disch := first | assumption | omega) only [go_sem, Nat.reduceEqDiff, ↓reduceIte]
 ·simp (disch := first | assumption | omega) only [go_sem, ↓reduceIte]
 clear h0 h2 h4 h5 h7
 rintro ⟨i, n⟩ a σ1 ⟨hi, hil, hn0, hn1, hni, hrun, hnum, h0, h2, h4, h5, h7, h9, h10, rfl⟩
 dsimp only at hi hil hn0 hn1 hni hrun hnum h5 h9
 by_cases hlt : i < l.length
 ·have hidx : l[i]? = some (l[i]'hlt) := List.getElem?_eq_getElem hlt
  obtain ⟨c, hc⟩ : ∃ c, l[i]'hlt = c := ⟨_, rfl⟩
  rw [hc] at hidx
  have hcb : (c.toNat : Int) ≤ 255 := by have := c.toNat_lt; omega
  rw [List.drop_eq_getElem_cons hlt, hc, runL] at hrun
  rw [List.drop_eq_getElem_cons hlt, hc, numF] at hnum
  have hat : atP l i = c.toNat := by unfold atP; rw [hidx]
  by_cases hd : 48 ≤ (c.toNat : Int) ∧ (c.toNat : Int) ≤ 57
  ·have hD : isD c = true := by unfold isD; simp; omega
   rw [if_pos hD] at hrun hnum
   have hd1 := hd.1
   have hd2 := hd.2
   simp (disch := first | assumption | omega) only [go_sem, reduceCtorEq, Nat.reduceEqDiff, ↓reduceIte, h0, h5, h9, hidx, hd1, hd2]
   refine ⟨(i + 1, min (10 * n + (c.toNat - 48)) 3001), by dsimp only; omega, Dr.now ⟨by dsimp only; omega, by dsimp only; omega, by dsimp only; omega, by dsimp only; omega, by dsimp only; omega, by dsimp only; omega, hnum, ?_, ?_, ?_, ?_, ?_, ?_, ?_, rfl⟩⟩
   ·simp (disch := first | assumption | omega) only [go_sem, reduceCtorEq, ↓reduceIte, h0]
   ·simp (disch := first | assumption | omega) only [go_sem, Nat.reduceEqDiff, ↓reduceIte, h2]
   ·simp (disch := first | assumption | omega) only [go_sem, Nat.reduceEqDiff, ↓reduceIte, h4]
   ·simp (disch := first | assumption | omega) only [go_sem, ↓reduceIte]
   ·simp (disch := first | assumption | omega) only [go_sem, Nat.reduceEqDiff, ↓reduceIte, h7]
   ·simp (disch := first | assumption | omega) only [go_sem, Nat.reduceEqDiff, ↓reduceIte]
   ·simp (disch := first | assumption | omega) only [go_sem, Nat.reduceEqDiff, ↓reduceIte, h10]
  ·have hD : ¬ isD c = true := by unfold isD; simp; omega
   rw [if_neg hD] at hrun hnum
   repeat' (first | (simp (disch := first | assumption | omega) only [go_sem, reduceCtorEq, Nat.reduceEqDiff, ↓reduceIte, h0, h5, hidx]) | with_reducible refine gC_d (fun h => ?_) (fun h => ?_) | with_reducible refine gC_dn (fun h => ?_) (fun h => ?_) | with_reducible refine condC_d (fun h => ?_) (fun h => ?_) | with_reducible refine condC_n (fun h => ?_) (fun h => ?_) | with_reducible refine condC_b (fun h => ?_) (fun h => ?_) | with_reducible refine boxC_by ?_ fun b hb => ?_)
   all_goals first | (exfalso; omega) | skip
   all_goals refine fin i n _ hi hil hn0 hn1 hni (by omega) hnum ?_ ?_ ?_ ?_ ?_ ?_ ?_ <;> simp (disch := first | assumption | omega) only [go_sem, reduceCtorEq, Nat.reduceEqDiff, ↓reduceIte, h0, h2, h4, h5, h7, h9, h10]
 ·have e : l.drop i = [] := List.drop_eq_nil_of_le (by omega)
  rw [e, runL] at hrun
  rw [e, numF] at hnum
  simp (disch := first | assumption | omega) only [go_sem, reduceCtorEq, Nat.reduceEqDiff, ↓reduceIte, h0, h5]
  refine fin i n _ hi hil hn0 hn1 hni (by omega) hnum ?_ ?_ ?_ ?_ ?_ ?_ ?_ <;> simp (disch := first | assumption | omega) only [go_sem, reduceCtorEq, Nat.reduceEqDiff, ↓reduceIte, h0, h2, h4, h5, h7, h9, h10]
def readR (l : List UInt8) (i : Nat) (ac : Bool) : Ref × Int :=
 if (columnP ((l.take (i + runL isL (l.drop i))).drop i)).2 = false then (.zero, 0)
 else if atP l (i + runL isL (l.drop i)) = 36 then readQ l (i + runL isL (l.drop i) + 1) (columnP ((l.take (i + runL isL (l.drop i))).drop i)).1 true ac
 else readQ l (i + runL isL (l.drop i)) (columnP ((l.take (i + runL isL (l.drop i))).drop i)).1 false ac
set_option maxHeartbeats 1000000 in
theorem read1 (l : List UInt8) (hl : l.length ≤ 9223372036854775000) (σ : ASt) (b0 b1 : Nat) (hb0 : σ b0 = none) (hb1 : σ b1 = none) (n1 : b0 ≠ b1) (i0 : Nat) (hi0 : i0 ≤ l.length) (ac : Bool) (q : Ref × Int) (hq : readR l i0 ac = q)
  (a : AFr) (h0 : a 0 = .str l) (h2 : a 2 = .ptr b0 0) (h4 : a 4 = .ptr b1 0) (h5 : a 5 = .int .i64 i0) :
  ACode.wp Tryz.prog c104_57 (RetQ [.c 2 (some 4), .t 3] fun v σ' => v = .tuple [refAV q.1, .int .i64 q.2] ∧ σ' = σ) a
   ((σ.set b0 (some (.obj [.int .i64 0, .int .i64 0, .bool false, .bool false]))).set b1 (some (.obj [.int .i64 0, .int .i64 0, .bool false, .bool ac]))) := by
 have n2 : b1 ≠ b0 := Ne.symm n1
 obtain ⟨F2, hF2⟩ : ∃ F, F = ACode.wp Tryz.prog c104_52 := ⟨_, rfl⟩
 obtain ⟨F3, hF3⟩ : ∃ F, F = ACode.wp Tryz.prog c104_53 := ⟨_, rfl⟩
 obtain ⟨F4, hF4⟩ : ∃ F, F = ACode.wp Tryz.prog c104_54 := ⟨_, rfl⟩
 obtain ⟨F5, hF5⟩ : ∃ F, F = ACode.wp Tryz.prog c104_55 := ⟨_, rfl⟩
 have fin : ∀ (i : Nat) (a : AFr), i0 ≤ i → i ≤ l.length → i0 + runL isL (l.drop i0) = i → a 0 = .str l → a 2 = .ptr b0 0 → a 4 = .ptr b1 0 → a 5 = .int .i64 i → a 6 = .int .i64 i0 →
   F5 (RetQ [.c 2 (some 4), .t 3] fun v σ' => v = .tuple [refAV q.1, .int .i64 q.2] ∧ σ' = σ) a
    ((σ.set b0 (some (.obj [.int .i64 0, .int .i64 0, .bool false, .bool false]))).set b1 (some (.obj [.int .i64 0, .int .i64 0, .bool false, .bool ac]))) := by
  intro i a hi hil hrun h0 h2 h4 h5 h6
  unfold readR at hq
  rw [hrun] at hq
  obtain ⟨C, hC⟩ : ∃ C, columnP ((l.take i).drop i0) = C := ⟨_, rfl⟩
  rw [hC] at hq
  obtain ⟨col, ok⟩ := C
  rw [hF5, c104_55_wp, wp_seq', ← hF4]
  simp (disch := first | assumption | omega) only [go_sem, Nat.reduceEqDiff, ↓reduceIte, h0, h5, h6]
  refine (column_ok ((l.take i).drop i0) (by simp; omega)).use ?_
  rw [hC]
  simp (disch := first | assumption | omega) only [go_sem, Nat.reduceEqDiff, ↓reduceIte]
  rw [hF4, c104_54_wp, wp_seq', ← hF3]
  cases ok
  ·rw [if_pos rfl] at hq
   subst hq
   simp (disch := first | assumption | omega) only [go_sem, Nat.reduceEqDiff, Nat.reduceAdd, Nat.reduceLeDiff, ↓reduceIte, Bool.true_and, h2, refAV]
   exact retC_by (by repeat' (first | exact Drop.refl _ | with_reducible refine Drop.off ?_ (by assumption))) (.refl _) ⟨rfl, rfl⟩
  ·rw [if_neg (by simp)] at hq
   simp (disch := first | assumption | omega) only [go_sem, ↓reduceIte]
   rw [hF3, c104_53_wp, wp_seq', ← hF2]
   by_cases hlt : i < l.length
   ·have hidx : l[i]? = some (l[i]'hlt) := List.getElem?_eq_getElem hlt
    obtain ⟨c, hc⟩ : ∃ c, l[i]'hlt = c := ⟨_, rfl⟩
    rw [hc] at hidx
    have hat : atP l i = c.toNat := by unfold atP; rw [hidx]
    rw [hat] at hq
    by_cases h36 : (c.toNat : Int) = 36
    ·rw [if_pos h36] at hq
     simp (disch := first | assumption | omega) only [go_sem, reduceCtorEq, Nat.reduceEqDiff, Nat.reduceAdd, Nat.reduceLeDiff, ↓reduceIte, Bool.true_and, h0, h4, h5, hidx, h36, ASt.set_set]
     rw [hF2]
     refine read2 l hl σ b0 b1 hb0 hb1 n1 (i + 1) (by omega) col true ac q hq _ ?_ ?_ ?_ ?_ ?_ <;> simp (disch := first | assumption | omega) only [go_sem, reduceCtorEq, Nat.reduceEqDiff, ↓reduceIte, h0, h2, h4]
    ·rw [if_neg h36] at hq
     simp (disch := first | assumption | omega) only [go_sem, reduceCtorEq, Nat.reduceEqDiff, ↓reduceIte, h0, h5, hidx, h36]
     rw [hF2]
     refine read2 l hl σ b0 b1 hb0 hb1 n1 i (by omega) col false ac q hq _ ?_ ?_ ?_ ?_ ?_ <;> simp (disch := first | assumption | omega) only [go_sem, reduceCtorEq, Nat.reduceEqDiff, ↓reduceIte, h0, h2, h4, h5]
   ·have hat : atP l i = 0 := by unfold atP; rw [List.getElem?_eq_none (by omega)]
    rw [hat, if_neg (by omega)] at hq
    simp (disch := first | assumption | omega) only [go_sem, reduceCtorEq, Nat.reduceEqDiff, ↓reduceIte, h0, h5]
    rw [hF2]
    refine read2 l hl σ b0 b1 hb0 hb1 n1 i (by omega) col false ac q hq _ ?_ ?_ ?_ ?_ ?_ <;> simp (disch := first | assumption | omega) only [go_sem, reduceCtorEq, Nat.reduceEqDiff, ↓reduceIte, h0, h2, h4, h5]
 rw [c104_57_wp, wp_seq']
 simp (disch := first | assumption | omega) only [go_sem, ↓reduceIte, h5]
 rw [← hF5]
 refine wp_loop_by (fun (i : Nat) a σ' => i0 ≤ i ∧ i ≤ l.length ∧ i0 + runL isL (l.drop i0) = i + runL isL (l.drop i) ∧ a 0 = .str l ∧ a 2 = .ptr b0 0 ∧ a 4 = .ptr b1 0 ∧ a 5 = .int .i64 i ∧ a 6 = .int .i64 i0 ∧
  σ' = (σ.set b0 (some (.obj [.int .i64 0, .int .i64 0, .bool false, .bool false]))).set b1 (some (.obj [.int .i64 0, .int .i64 0, .bool false, .bool ac]))) (fun i => l.length - i) i0
  (Dr.now ⟨Nat.le_refl _, hi0, rfl, ?_, ?_, ?_, ?_, ?_, rfl⟩) ?_
 ·simp (disch := first | assumption | omega) only [go_sem, reduceCtorEq, ↓reduceIte, h0]
 ·simp (disch := first | assumption | omega) only [go_sem, Nat.reduceEqDiff, ↓reduceIte, h2]
 ·simp (disch := first | assumption | omega) only [go_sem, Nat.reduceEqDiff, ↓reduceIte, h4]
 ·simp (disch := first | assumption | omega) only [go_sem, Nat.reduceEqDiff, ↓reduceIte, h5]
 ·simp (disch := first | assumption | omega) only [go_sem, ↓reduceIte]
 clear h0 h2 h4 h5
 rintro i a σ1 ⟨hi, hil, hrun, h0, h2, h4, h5, h6, rfl⟩
 by_cases hlt : i < l.length
 ·have hidx : l[i]? = some (l[i]'hlt) := List.getElem?_eq_getElem hlt
  obtain ⟨c, hc⟩ : ∃ c, l[i]'hlt = c := ⟨_, rfl⟩
  rw [hc] at hidx
  have hcb : (c.toNat : Int) ≤ 255 := by have := c.toNat_lt; omega
  rw [List.drop_eq_getElem_cons hlt, hc, runL] at hrun
  simp (disch := first | assumption | omega) only [go_sem, reduceCtorEq, Nat.reduceEqDiff, ↓reduceIte, h0, h5, hidx]
  refine (letter_ok c.toNat (by omega) hcb).use ?_
  by_cases hL : 0 < letterP c.toNat
  ·rw [if_pos (by unfold isL; simpa using hL)] at hrun
   simp (disch := first | assumption | omega) only [go_sem, Nat.reduceEqDiff, ↓reduceIte, h5, hL]
   refine ⟨i + 1, by dsimp only; omega, Dr.now ⟨by omega, by omega, by omega, ?_, ?_, ?_, ?_, ?_, rfl⟩⟩
   ·simp (disch := first | assumption | omega) only [go_sem, reduceCtorEq, ↓reduceIte, h0]
   ·simp (disch := first | assumption | omega) only [go_sem, Nat.reduceEqDiff, ↓reduceIte, h2]
   ·simp (disch := first | assumption | omega) only [go_sem, Nat.reduceEqDiff, ↓reduceIte, h4]
   ·simp (disch := first | assumption | omega) only [go_sem, ↓reduceIte]
   ·simp (disch := first | assumption | omega) only [go_sem, Nat.reduceEqDiff, ↓reduceIte, h6]
  ·rw [if_neg (by unfold isL; simpa using hL)] at hrun
   simp (disch := first | assumption | omega) only [go_sem, Nat.reduceEqDiff, ↓reduceIte, hL]
   refine fin i _ hi hil (by omega) ?_ ?_ ?_ ?_ ?_ <;> simp (disch := first | assumption | omega) only [go_sem, reduceCtorEq, Nat.reduceEqDiff, ↓reduceIte, h0, h2, h4, h5, h6]
 ·have e : l.drop i = [] := List.drop_eq_nil_of_le (by omega)
  rw [e, runL] at hrun
  simp (disch := first | assumption | omega) only [go_sem, reduceCtorEq, Nat.reduceEqDiff, ↓reduceIte, h0, h5]
  refine fin i _ hi hil (by omega) ?_ ?_ ?_ ?_ ?_ <;> simp (disch := first | assumption | omega) only [go_sem, reduceCtorEq, Nat.reduceEqDiff, ↓reduceIte, h0, h2, h4, h5, h6]
def readP (l : List UInt8) : Ref × Int := if atP l 0 = 36 then readR l 1 true else readR l 0 false
theorem read_ok (l : List UInt8) (hl : l.length ≤ 9223372036854775000) : Pure Tryz.prog 104 [.str l] (.tuple [refAV (readP l).1, .int .i64 (readP l).2]) := by
 intro σ
 obtain ⟨q, hq⟩ : ∃ q, readP l = q := ⟨_, rfl⟩
 rw [hq]
 unfold readP at hq
 refine a104 (by simp) ?_
 obtain ⟨F, hF⟩ : ∃ F, F = ACode.wp Tryz.prog c104_57 := ⟨_, rfl⟩
 obtain ⟨F8, hF8⟩ : ∃ F, F = ACode.wp Tryz.prog c104_58 := ⟨_, rfl⟩
 obtain ⟨F9, hF9⟩ : ∃ F, F = ACode.wp Tryz.prog c104_59 := ⟨_, rfl⟩
 obtain ⟨F0, hF0⟩ : ∃ F, F = ACode.wp Tryz.prog c104_60 := ⟨_, rfl⟩
 rw [c104_61_wp, wp_seq', ← hF0]
 simp (disch := first | assumption | omega) only [go_sem]
 refine allocC_by fun b0 hb0 => ?_
 simp (disch := first | assumption | omega) only [go_sem]
 rw [hF0, c104_60_wp, wp_seq', ← hF9]
 simp (disch := first | assumption | omega) only [go_sem]
 refine allocC_by fun b1 hb1 => ?_
 obtain ⟨n1, n2, hb3⟩ := set_none hb1
 simp (disch := first | assumption | omega) only [go_sem]
 rw [hF9, c104_59_wp, wp_seq', ← hF8]
 simp (disch := first | assumption | omega) only [go_sem]
 rw [hF8, c104_58_wp, wp_seq', ← hF]
 by_cases hlt : 0 < l.length
 ·have hidx : l[0]? = some (l[0]'hlt) := List.getElem?_eq_getElem hlt
  obtain ⟨c, hc⟩ : ∃ c, l[0]'hlt = c := ⟨_, rfl⟩
  rw [hc] at hidx
  have hat : atP l 0 = c.toNat := by unfold atP; rw [hidx]
  have hlt' : (0 : Int) < l.length := by omega
  rw [hat] at hq
  by_cases h36 : (c.toNat : Int) = 36
  ·rw [if_pos h36] at hq
   simp (disch := first | assumption | omega) only [go_sem, reduceCtorEq, Nat.reduceEqDiff, Nat.reduceAdd, Nat.reduceLeDiff, ↓reduceIte, Int.reduceAdd, Bool.true_and, hlt', hidx, h36, ASt.set_set]
   rw [hF]
   refine read1 l hl σ b0 b1 hb0 hb3 n2 1 (by omega) true q hq _ ?_ ?_ ?_ ?_ <;> simp (disch := first | assumption | omega) only [go_sem, reduceCtorEq, Nat.reduceEqDiff, ↓reduceIte]
  ·rw [if_neg h36] at hq
   simp (disch := first | assumption | omega) only [go_sem, reduceCtorEq, Nat.reduceEqDiff, ↓reduceIte, hlt', hidx, h36]
   rw [hF]
   refine read1 l hl σ b0 b1 hb0 hb3 n2 0 (by omega) false q hq _ ?_ ?_ ?_ ?_ <;> simp (disch := first | assumption | omega) only [go_sem, reduceCtorEq, Nat.reduceEqDiff, ↓reduceIte]
 ·have hat : atP l 0 = 0 := by unfold atP; rw [List.getElem?_eq_none (by omega)]
  have hlt' : ¬ (0 : Int) < l.length := by omega
  rw [hat, if_neg (by omega)] at hq
  simp (disch := first | assumption | omega) only [go_sem, reduceCtorEq, Nat.reduceEqDiff, ↓reduceIte, hlt']
  rw [hF]
  refine read1 l hl σ b0 b1 hb0 hb3 n2 0 (by omega) false q hq _ ?_ ?_ ?_ ?_ <;> simp (disch := first | assumption | omega) only [go_sem, reduceCtorEq, Nat.reduceEqDiff, ↓reduceIte]
end Go.A
namespace Go.A
open Go.Proofs
/-! 85: tabular/addr.Parse -/
def c85_0 : ACode := .ops [
 ⟨some 2, none, .e (.alloc [(.int .i64 0), (.int .i64 0), (.bool false), (.bool false)]), []⟩,
 ⟨some 3, none, .q (.mv (.v (.bool false))), []⟩]
def c85_1 : ACode := .ops [
 ⟨some 7, none, .q (.mv (.t 0)), []⟩,
 ⟨some 8, none, .e (.call 104 [(.t 7)]), []⟩,
 ⟨some 6, none, .q (.mv (.t 8)), []⟩,
 ⟨some 9, none, .q (.ext 0 (.t 6)), []⟩,
 ⟨some 10, none, .q (.ext 1 (.t 6)), []⟩,
 ⟨some 4, none, .e (.alloc [(.int .i64 0), (.int .i64 0), (.bool false), (.bool false)]), []⟩,
 ⟨none, none, .e (.store 4 (.t 4) (.t 9)), []⟩,
 ⟨some 5, none, .q (.mv (.t 10)), []⟩]
def c85_2 : ACode := .ops [
 ⟨some 11, none, .q (.mv (.t 5)), []⟩,
 ⟨some 12, none, .q (.bin .eql (.t 11) (.v (.int .i64 0))), []⟩,
 ⟨some 13, none, .q (.mv (.t 12)), []⟩,
 ⟨some 14, some (13, false), .q (.mv (.t 5)), []⟩,
 ⟨some 15, some (13, false), .q (.mv (.t 0)), []⟩,
 ⟨some 16, some (13, false), .q (.lenS (.t 15)), []⟩,
 ⟨some 17, some (13, false), .q (.bin .lss (.t 14) (.t 16)), []⟩,
 ⟨some 18, none, .q (.pick (.t 13) (.v (.bool true)) (.t 17)), []⟩]
def c85_3 : ACode := .ops [
 ⟨some 19, none, .q (.build [(.int .i64 0), (.int .i64 0), (.bool false), (.bool false)] []), []⟩,
 ⟨none, none, .e (.store 4 (.t 2) (.t 19)), []⟩,
 ⟨some 3, none, .q (.mv (.v (.bool false))), []⟩]
def c85_4 : ACode := .seq c85_3 .ret
def c85_5 : ACode := .cond (.t 18) c85_4 .skip
def c85_6 : ACode := .seq c85_2 c85_5
def c85_7 : ACode := .ops [
 ⟨some 20, none, .q (.ld (some 4) (.t 4)), []⟩,
 ⟨none, none, .e (.store 4 (.t 2) (.t 20)), []⟩,
 ⟨some 3, none, .q (.mv (.v (.bool true))), []⟩]
def c85_8 : ACode := .seq c85_7 .ret
def c85_9 : ACode := .seq c85_6 c85_8
def c85_10 : ACode := .seq c85_1 c85_9
def c85_11 : ACode := .seq c85_0 c85_10
@[go_sem] def c85_0_wp := wp_of c85_0.eq_1
@[go_sem] def c85_1_wp := wp_of c85_1.eq_1
@[go_sem] def c85_2_wp := wp_of c85_2.eq_1
@[go_sem] def c85_3_wp := wp_of c85_3.eq_1
@[go_sem] def c85_4_wp := wp_of c85_4.eq_1
@[go_sem] def c85_5_wp := wp_of c85_5.eq_1
@[go_sem] def c85_6_wp := wp_of c85_6.eq_1
@[go_sem] def c85_7_wp := wp_of c85_7.eq_1
@[go_sem] def c85_8_wp := wp_of c85_8.eq_1
@[go_sem] def c85_9_wp := wp_of c85_9.eq_1
@[go_sem] def c85_10_wp := wp_of c85_10.eq_1
@[go_sem] def c85_11_wp := wp_of c85_11.eq_1
def c85 : AFn := ⟨21, [.c 2 (some 4), .t 3], c85_11⟩
theorem c85_ok : compF Tryz.prog Tryz.f85 = some c85 := by kernel_rfl
theorem a85 {args : List AV} {σ : ASt} {R : AV → ASt → Prop} (hl : args.length ≤ 21) (h : c85_11.wp Tryz.prog (RetQ [.c 2 (some 4), .t 3] R) (init args) σ) : ACalls Tryz.prog 85 args σ R := acalls_of Tryz.func85 c85_ok hl h
end Go.A
namespace Go.A
open Go.Proofs
def parseP (l : List UInt8) : Ref × Bool := if (readP l).2 = 0 ∨ (readP l).2 < l.length then (.zero, false) else ((readP l).1, true)
theorem parse_ok (l : List UInt8) (hl : l.length ≤ 9223372036854775000) : Pure Tryz.prog 85 [.str l] (.tuple [refAV (parseP l).1, .bool (parseP l).2]) := by
 intro σ
 obtain ⟨q, hq⟩ : ∃ q, parseP l = q := ⟨_, rfl⟩
 rw [hq]
 unfold parseP at hq
 obtain ⟨R, hR⟩ : ∃ R, readP l = R := ⟨_, rfl⟩
 rw [hR] at hq
 obtain ⟨⟨row, col, ar, ac⟩, n⟩ := R
 dsimp only at hq
 refine a85 (by simp) ?_
 simp (disch := first | assumption | omega) only [go_sem]
 refine allocC_by fun b0 hb0 => ?_
 simp (disch := first | assumption | omega) only [go_sem, reduceCtorEq, ↓reduceIte]
 refine (read_ok l hl).use ?_
 rw [hR]
 simp (disch := first | assumption | omega) only [go_sem, Nat.reduceEqDiff, ↓reduceIte, refAV]
 refine allocC_by fun b1 hb1 => ?_
 obtain ⟨n1, n2, hb3⟩ := set_none hb1
 repeat' (first | (simp (disch := first | assumption | omega) only [go_sem, reduceCtorEq, Nat.reduceEqDiff, Nat.reduceAdd, Nat.reduceLeDiff, ↓reduceIte, Bool.true_and]) | with_reducible refine gC_d (fun h => ?_) (fun h => ?_) | with_reducible refine gC_dn (fun h => ?_) (fun h => ?_) | with_reducible refine condC_d (fun h => ?_) (fun h => ?_) | with_reducible refine condC_n (fun h => ?_) (fun h => ?_) | with_reducible refine condC_b (fun h => ?_) (fun h => ?_) | with_reducible refine boxC_by ?_ fun b hb => ?_)
 all_goals first
  | (rw [if_pos (by omega)] at hq
     subst hq
     exact retC_by (by repeat' (first | exact Drop.refl _ | with_reducible refine Drop.off ?_ (by assumption))) (.refl _) ⟨rfl, rfl⟩)
  | (rw [if_neg (by omega)] at hq
     subst hq
     exact retC_by (by repeat' (first | exact Drop.refl _ | with_reducible refine Drop.off ?_ (by assumption))) (.refl _) ⟨rfl, rfl⟩)
def areaAV (a b : Ref) : AV := .agg [.int .i64 a.row, .int .i64 a.col, .bool a.absRow, .bool a.absCol, .int .i64 b.row, .int .i64 b.col, .bool b.absRow, .bool b.absCol]
end Go.A
namespace Go.A
open Go.Proofs
/-! 6: tabular/tabularlaw01.Cut -/
def c6_0 : ACode := .ops [
 ⟨some 4, none, .q (.mv (.v (.str []))), []⟩]
def c6_1 : ACode := .ops [
 ⟨some 5, none, .q (.mv (.t 0)), []⟩,
 ⟨some 6, none, .q (.lenS (.t 5)), []⟩,
 ⟨some 7, none, .q (.mv (.t 1)), []⟩,
 ⟨some 8, none, .q (.bin .gtr (.t 6) (.t 7)), []⟩]
def c6_2 : ACode := .ops [
 ⟨some 9, none, .q (.mv (.t 0)), []⟩,
 ⟨some 10, none, .q (.mv (.t 1)), []⟩,
 ⟨some 11, none, .q (.slto (true, 0) (.t 9) (.t 10)), []⟩,
 ⟨some 4, none, .q (.mv (.t 11)), []⟩]
def c6_3 : ACode := .seq c6_2 .ret
def c6_4 : ACode := .cond (.t 8) c6_3 .skip
def c6_5 : ACode := .seq c6_1 c6_4
def c6_6 : ACode := .ops [
 ⟨some 12, none, .q (.mv (.t 0)), []⟩,
 ⟨some 4, none, .q (.mv (.t 12)), []⟩]
def c6_7 : ACode := .seq c6_6 .ret
def c6_8 : ACode := .seq c6_5 c6_7
def c6_9 : ACode := .seq c6_0 c6_8
@[go_sem] def c6_0_wp := wp_of c6_0.eq_1
@[go_sem] def c6_1_wp := wp_of c6_1.eq_1
@[go_sem] def c6_2_wp := wp_of c6_2.eq_1
@[go_sem] def c6_3_wp := wp_of c6_3.eq_1
@[go_sem] def c6_4_wp := wp_of c6_4.eq_1
@[go_sem] def c6_5_wp := wp_of c6_5.eq_1
@[go_sem] def c6_6_wp := wp_of c6_6.eq_1
@[go_sem] def c6_7_wp := wp_of c6_7.eq_1
@[go_sem] def c6_8_wp := wp_of c6_8.eq_1
@[go_sem] def c6_9_wp := wp_of c6_9.eq_1
def c6 : AFn := ⟨13, [.t 4], c6_9⟩
theorem c6_ok : compF Tryz.prog Tryz.f6 = some c6 := by kernel_rfl
theorem a6 {args : List AV} {σ : ASt} {R : AV → ASt → Prop} (hl : args.length ≤ 13) (h : c6_9.wp Tryz.prog (RetQ [.t 4] R) (init args) σ) : ACalls Tryz.prog 6 args σ R := acalls_of Tryz.func6 c6_ok hl h
/-! 27: (tabular/deci.Dec).Text -/
def c27_0 : ACode := .ops [
 ⟨some 2, none, .q (.mv (.v (.str []))), []⟩]
def c27_1 : ACode := .ops [
 ⟨some 6, none, .q (.mv (.t 0)), []⟩,
 ⟨some 7, none, .e (.call 51 [(.t 6)]), []⟩,
 ⟨some 3, none, .q (.mv (.t 7)), []⟩]
def c27_2 : ACode := .ops [
 ⟨some 8, none, .q (.mv (.t 3)), []⟩,
 ⟨some 9, none, .q (.bin .quo (.t 8) (.v (.int .u64 10000))), []⟩,
 ⟨some 10, none, .e (.call 52 [(.t 9), (.v (.int .i64 10))]), []⟩,
 ⟨some 4, none, .q (.mv (.t 10)), []⟩]
def c27_3 : ACode := .ops [
 ⟨some 11, none, .q (.mv (.t 3)), []⟩,
 ⟨some 12, none, .q (.bin .rem (.t 11) (.v (.int .u64 10000))), []⟩,
 ⟨some 5, none, .q (.mv (.t 12)), []⟩]
def c27_4 : ACode := .ops [
 ⟨some 13, none, .q (.mv (.t 5)), []⟩,
 ⟨some 14, none, .q (.bin .gtr (.t 13) (.v (.int .u64 0))), []⟩]
def c27_5 : ACode := .ops [
 ⟨some 15, none, .q (.mv (.t 4)), []⟩,
 ⟨some 16, none, .q (.mv (.t 5)), []⟩,
 ⟨some 17, none, .q (.bin .add (.v (.int .u64 10000)) (.t 16)), []⟩,
 ⟨some 18, none, .e (.call 52 [(.t 17), (.v (.int .i64 10))]), []⟩,
 ⟨some 19, none, .q (.slfrom (true, 0) (.t 18) (.v (.int .i64 1))), []⟩,
 ⟨some 20, none, .e (.call 53 [(.t 19), (.v (.str [48]))]), []⟩,
 ⟨some 21, none, .q (.bin .add (.v (.str [46])) (.t 20)), []⟩,
 ⟨some 22, none, .q (.bin .add (.t 15) (.t 21)), []⟩,
 ⟨some 4, none, .q (.mv (.t 22)), []⟩]
def c27_6 : ACode := .cond (.t 14) c27_5 .skip
def c27_7 : ACode := .seq c27_4 c27_6
def c27_8 : ACode := .seq c27_3 c27_7
def c27_9 : ACode := .ops [
 ⟨some 23, none, .q (.mv (.t 0)), []⟩,
 ⟨some 24, none, .q (.bin .lss (.t 23) (.v (.int .i64 0))), []⟩]
def c27_10 : ACode := .ops [
 ⟨some 25, none, .q (.mv (.t 4)), []⟩,
 ⟨some 26, none, .q (.bin .add (.v (.str [45])) (.t 25)), []⟩,
 ⟨some 2, none, .q (.mv (.t 26)), []⟩]
def c27_11 : ACode := .seq c27_10 .ret
def c27_12 : ACode := .cond (.t 24) c27_11 .skip
def c27_13 : ACode := .seq c27_9 c27_12
def c27_14 : ACode := .ops [
 ⟨some 27, none, .q (.mv (.t 4)), []⟩,
 ⟨some 2, none, .q (.mv (.t 27)), []⟩]
def c27_15 : ACode := .seq c27_14 .ret
def c27_16 : ACode := .seq c27_13 c27_15
def c27_17 : ACode := .seq c27_8 c27_16
def c27_18 : ACode := .seq c27_2 c27_17
def c27_19 : ACode := .seq c27_1 c27_18
def c27_20 : ACode := .seq c27_0 c27_19
@[go_sem] def c27_0_wp := wp_of c27_0.eq_1
@[go_sem] def c27_1_wp := wp_of c27_1.eq_1
@[go_sem] def c27_2_wp := wp_of c27_2.eq_1
@[go_sem] def c27_3_wp := wp_of c27_3.eq_1
@[go_sem] def c27_4_wp := wp_of c27_4.eq_1
@[go_sem] def c27_5_wp := wp_of c27_5.eq_1
@[go_sem] def c27_6_wp := wp_of c27_6.eq_1
@[go_sem] def c27_7_wp := wp_of c27_7.eq_1
@[go_sem] def c27_8_wp := wp_of c27_8.eq_1
@[go_sem] def c27_9_wp := wp_of c27_9.eq_1
@[go_sem] def c27_10_wp := wp_of c27_10.eq_1
@[go_sem] def c27_11_wp := wp_of c27_11.eq_1
@[go_sem] def c27_12_wp := wp_of c27_12.eq_1
@[go_sem] def c27_13_wp := wp_of c27_13.eq_1
@[go_sem] def c27_14_wp := wp_of c27_14.eq_1
@[go_sem] def c27_15_wp := wp_of c27_15.eq_1
@[go_sem] def c27_16_wp := wp_of c27_16.eq_1
@[go_sem] def c27_17_wp := wp_of c27_17.eq_1
@[go_sem] def c27_18_wp := wp_of c27_18.eq_1
@[go_sem] def c27_19_wp := wp_of c27_19.eq_1
@[go_sem] def c27_20_wp := wp_of c27_20.eq_1
def c27 : AFn := ⟨28, [.t 2], c27_20⟩
theorem c27_ok : compF Tryz.prog Tryz.f27 = some c27 := by kernel_rfl
theorem a27 {args : List AV} {σ : ASt} {R : AV → ASt → Prop} (hl : args.length ≤ 28) (h : c27_20.wp Tryz.prog (RetQ [.t 2] R) (init args) σ) : ACalls Tryz.prog 27 args σ R := acalls_of Tryz.func27 c27_ok hl h
/-! 51: tabular/deci.size -/
def c51_0 : ACode := .ops [
 ⟨some 2, none, .q (.mv (.v (.int .u64 0))), []⟩]
def c51_1 : ACode := .ops [
 ⟨some 3, none, .q (.mv (.t 0)), []⟩,
 ⟨some 4, none, .q (.bin .lss (.t 3) (.v (.int .i64 0))), []⟩]
def c51_2 : ACode := .ops [
 ⟨some 5, none, .q (.mv (.t 0)), []⟩,
 ⟨some 6, none, .q (.un .neg (.t 5)), []⟩,
 ⟨some 7, none, .q (.conv .u64 (.t 6)), []⟩,
 ⟨some 2, none, .q (.mv (.t 7)), []⟩]
def c51_3 : ACode := .seq c51_2 .ret
def c51_4 : ACode := .cond (.t 4) c51_3 .skip
def c51_5 : ACode := .seq c51_1 c51_4
def c51_6 : ACode := .ops [
 ⟨some 8, none, .q (.mv (.t 0)), []⟩,
 ⟨some 9, none, .q (.conv .u64 (.t 8)), []⟩,
 ⟨some 2, none, .q (.mv (.t 9)), []⟩]
def c51_7 : ACode := .seq c51_6 .ret
def c51_8 : ACode := .seq c51_5 c51_7
def c51_9 : ACode := .seq c51_0 c51_8
@[go_sem] def c51_0_wp := wp_of c51_0.eq_1
@[go_sem] def c51_1_wp := wp_of c51_1.eq_1
@[go_sem] def c51_2_wp := wp_of c51_2.eq_1
@[go_sem] def c51_3_wp := wp_of c51_3.eq_1
@[go_sem] def c51_4_wp := wp_of c51_4.eq_1
@[go_sem] def c51_5_wp := wp_of c51_5.eq_1
@[go_sem] def c51_6_wp := wp_of c51_6.eq_1
@[go_sem] def c51_7_wp := wp_of c51_7.eq_1
@[go_sem] def c51_8_wp := wp_of c51_8.eq_1
@[go_sem] def c51_9_wp := wp_of c51_9.eq_1
def c51 : AFn := ⟨10, [.t 2], c51_9⟩
theorem c51_ok : compF Tryz.prog Tryz.f51 = some c51 := by kernel_rfl
theorem a51 {args : List AV} {σ : ASt} {R : AV → ASt → Prop} (hl : args.length ≤ 10) (h : c51_9.wp Tryz.prog (RetQ [.t 2] R) (init args) σ) : ACalls Tryz.prog 51 args σ R := acalls_of Tryz.func51 c51_ok hl h
/-! 52: strconv.FormatUint -/
def c52_0 : ACode := .ops [
 ⟨some 4, none, .q (.mv (.v (.str []))), []⟩]
def c52_1 : ACode := .ops [
 ⟨some 5, none, .q (.mv (.t 0)), []⟩,
 ⟨some 6, none, .q (.mv (.t 1)), []⟩,
 ⟨some 7, none, .e (.call 74 [(.t 5), (.t 6)]), []⟩,
 ⟨some 4, none, .q (.mv (.t 7)), []⟩]
def c52_2 : ACode := .seq c52_1 .ret
def c52_3 : ACode := .seq c52_0 c52_2
@[go_sem] def c52_0_wp := wp_of c52_0.eq_1
@[go_sem] def c52_1_wp := wp_of c52_1.eq_1
@[go_sem] def c52_2_wp := wp_of c52_2.eq_1
@[go_sem] def c52_3_wp := wp_of c52_3.eq_1
def c52 : AFn := ⟨8, [.t 4], c52_3⟩
theorem c52_ok : compF Tryz.prog Tryz.f52 = some c52 := by kernel_rfl
theorem a52 {args : List AV} {σ : ASt} {R : AV → ASt → Prop} (hl : args.length ≤ 8) (h : c52_3.wp Tryz.prog (RetQ [.t 4] R) (init args) σ) : ACalls Tryz.prog 52 args σ R := acalls_of Tryz.func52 c52_ok hl h
/-! 55: (tabular/deci.Dec).Whole -/
def c55_0 : ACode := .ops [
 ⟨some 2, none, .q (.mv (.v (.int .i64 0))), []⟩]
def c55_1 : ACode := .ops [
 ⟨some 3, none, .q (.mv (.t 0)), []⟩,
 ⟨some 4, none, .q (.bin .quo (.t 3) (.v (.int .i64 10000))), []⟩,
 ⟨some 2, none, .q (.mv (.t 4)), []⟩]
def c55_2 : ACode := .seq c55_1 .ret
def c55_3 : ACode := .seq c55_0 c55_2
@[go_sem] def c55_0_wp := wp_of c55_0.eq_1
@[go_sem] def c55_1_wp := wp_of c55_1.eq_1
@[go_sem] def c55_2_wp := wp_of c55_2.eq_1
@[go_sem] def c55_3_wp := wp_of c55_3.eq_1
def c55 : AFn := ⟨5, [.t 2], c55_3⟩
theorem c55_ok : compF Tryz.prog Tryz.f55 = some c55 := by kernel_rfl
theorem a55 {args : List AV} {σ : ASt} {R : AV → ASt → Prop} (hl : args.length ≤ 5) (h : c55_3.wp Tryz.prog (RetQ [.t 2] R) (init args) σ) : ACalls Tryz.prog 55 args σ R := acalls_of Tryz.func55 c55_ok hl h
/-! 83: strings.Cut -/
def c83_0 : ACode := .ops [
 ⟨some 4, none, .q (.mv (.v (.str []))), []⟩,
 ⟨some 5, none, .q (.mv (.v (.str []))), []⟩,
 ⟨some 6, none, .q (.mv (.v (.bool false))), []⟩]
def c83_1 : ACode := .ops [
 ⟨some 7, none, .q (.mv (.t 0)), []⟩,
 ⟨some 8, none, .q (.mv (.t 1)), []⟩,
 ⟨some 9, none, .e (.call 103 [(.t 7), (.t 8)]), []⟩,
 ⟨some 10, none, .q (.ext 0 (.t 9)), []⟩,
 ⟨some 11, none, .q (.ext 1 (.t 9)), []⟩,
 ⟨some 12, none, .q (.ext 2 (.t 9)), []⟩,
 ⟨some 4, none, .q (.mv (.t 10)), []⟩,
 ⟨some 5, none, .q (.mv (.t 11)), []⟩,
 ⟨some 6, none, .q (.mv (.t 12)), []⟩]
def c83_2 : ACode := .seq c83_1 .ret
def c83_3 : ACode := .seq c83_0 c83_2
@[go_sem] def c83_0_wp := wp_of c83_0.eq_1
@[go_sem] def c83_1_wp := wp_of c83_1.eq_1
@[go_sem] def c83_2_wp := wp_of c83_2.eq_1
@[go_sem] def c83_3_wp := wp_of c83_3.eq_1
def c83 : AFn := ⟨13, [.t 4, .t 5, .t 6], c83_3⟩
theorem c83_ok : compF Tryz.prog Tryz.f83 = some c83 := by kernel_rfl
theorem a83 {args : List AV} {σ : ASt} {R : AV → ASt → Prop} (hl : args.length ≤ 13) (h : c83_3.wp Tryz.prog (RetQ [.t 4, .t 5, .t 6] R) (init args) σ) : ACalls Tryz.prog 83 args σ R := acalls_of Tryz.func83 c83_ok hl h
/-! 89: tabular/deci.Parse -/
def c89_0 : ACode := .ops [
 ⟨some 2, none, .q (.mv (.v (.int .i64 0))), []⟩,
 ⟨some 3, none, .q (.mv (.v (.bool false))), []⟩]
def c89_1 : ACode := .ops [
 ⟨some 13, none, .q (.mv (.t 0)), []⟩,
 ⟨some 14, none, .e (.call 107 [(.t 13), (.v (.str [45]))]), []⟩,
 ⟨some 12, none, .q (.mv (.t 14)), []⟩,
 ⟨some 15, none, .q (.ext 0 (.t 12)), []⟩,
 ⟨some 16, none, .q (.ext 1 (.t 12)), []⟩,
 ⟨some 4, none, .q (.mv (.t 15)), []⟩,
 ⟨some 5, none, .q (.mv (.t 16)), []⟩]
def c89_2 : ACode := .ops [
 ⟨some 18, none, .q (.mv (.t 4)), []⟩,
 ⟨some 19, none, .e (.call 83 [(.t 18), (.v (.str [46]))]), []⟩,
 ⟨some 17, none, .q (.mv (.t 19)), []⟩,
 ⟨some 20, none, .q (.ext 0 (.t 17)), []⟩,
 ⟨some 21, none, .q (.ext 1 (.t 17)), []⟩,
 ⟨some 22, none, .q (.ext 2 (.t 17)), []⟩,
 ⟨some 6, none, .q (.mv (.t 20)), []⟩,
 ⟨some 7, none, .q (.mv (.t 21)), []⟩,
 ⟨some 8, none, .q (.mv (.t 22)), []⟩]
def c89_3 : ACode := .ops [
 ⟨some 23, none, .q (.mv (.t 6)), []⟩,
 ⟨some 24, none, .q (.bin .eql (.t 23) (.v (.str []))), []⟩,
 ⟨some 25, none, .q (.mv (.t 24)), []⟩,
 ⟨some 26, some (25, false), .q (.mv (.t 8)), []⟩,
 ⟨some 27, some (25, false), .q (.mv (.t 26)), []⟩,
 ⟨some 28, some (27, true), .q (.mv (.t 7)), []⟩,
 ⟨some 29, some (27, true), .q (.bin .eql (.t 28) (.v (.str []))), []⟩,
 ⟨some 30, some (27, true), .q (.mv (.t 29)), []⟩,
 ⟨some 31, some (30, false), .q (.mv (.t 7)), []⟩,
 ⟨some 32, some (30, false), .q (.lenS (.t 31)), []⟩,
 ⟨some 33, some (30, false), .q (.bin .gtr (.t 32) (.v (.int .i64 4))), []⟩,
 ⟨some 34, some (27, true), .q (.pick (.t 30) (.v (.bool true)) (.t 33)), []⟩,
 ⟨some 35, some (25, false), .q (.pick (.t 27) (.t 34) (.v (.bool false))), []⟩,
 ⟨some 36, none, .q (.pick (.t 25) (.v (.bool true)) (.t 35)), []⟩]
def c89_4 : ACode := .ops [
 ⟨some 2, none, .q (.mv (.v (.int .i64 0))), []⟩,
 ⟨some 3, none, .q (.mv (.v (.bool false))), []⟩]
def c89_5 : ACode := .seq c89_4 .ret
def c89_6 : ACode := .cond (.t 36) c89_5 .skip
def c89_7 : ACode := .seq c89_3 c89_6
def c89_8 : ACode := .ops [
 ⟨some 9, none, .q (.mv (.v (.int .u64 0))), []⟩]
def c89_9 : ACode := .ops [
 ⟨some 37, none, .q (.mv (.t 6)), []⟩,
 ⟨some 38, none, .q (.mv (.t 7)), []⟩,
 ⟨some 39, none, .q (.bin .add (.t 37) (.t 38)), []⟩,
 ⟨some 40, none, .q (.mv (.t 7)), []⟩,
 ⟨some 41, none, .q (.lenS (.t 40)), []⟩,
 ⟨some 42, none, .q (.slfrom (true, 0) (.v (.str [48, 48, 48, 48])) (.t 41)), []⟩,
 ⟨some 43, none, .q (.bin .add (.t 39) (.t 42)), []⟩,
 ⟨some 44, none, .e (.s2b (.t 43)), []⟩,
 ⟨some 45, none, .q (.len (.t 44)), []⟩,
 ⟨some 46, none, .q (.mv (.v (.int .i64 0))), []⟩]
def c89_10 : ACode := .ops [
 ⟨some 47, none, .q (.bin .lss (.t 46) (.t 45)), []⟩]
def c89_11 : ACode := .cond (.t 47) .skip (.exit 0)
def c89_12 : ACode := .ops [
 ⟨some 48, none, .q (.ia 1 (.t 44) (.t 46)), []⟩,
 ⟨some 49, none, .q (.ld none (.t 48)), []⟩,
 ⟨some 11, none, .q (.mv (.t 49)), []⟩]
def c89_13 : ACode := .ops [
 ⟨some 50, none, .q (.mv (.t 11)), []⟩,
 ⟨some 51, none, .q (.bin .lss (.t 50) (.v (.int .u8 48))), []⟩,
 ⟨some 52, none, .q (.mv (.t 51)), []⟩,
 ⟨some 53, some (52, false), .q (.mv (.t 11)), []⟩,
 ⟨some 54, some (52, false), .q (.bin .gtr (.t 53) (.v (.int .u8 57))), []⟩,
 ⟨some 55, none, .q (.pick (.t 52) (.v (.bool true)) (.t 54)), []⟩,
 ⟨some 56, none, .q (.mv (.t 55)), []⟩,
 ⟨some 57, some (56, false), .q (.mv (.t 9)), []⟩,
 ⟨some 58, some (56, false), .q (.bin .gtr (.t 57) (.v (.int .u64 99999999999999999))), []⟩,
 ⟨some 59, none, .q (.pick (.t 56) (.v (.bool true)) (.t 58)), []⟩]
def c89_14 : ACode := .ops [
 ⟨some 2, none, .q (.mv (.v (.int .i64 0))), []⟩,
 ⟨some 3, none, .q (.mv (.v (.bool false))), []⟩]
def c89_15 : ACode := .seq c89_14 .ret
def c89_16 : ACode := .cond (.t 59) c89_15 .skip
def c89_17 : ACode := .seq c89_13 c89_16
def c89_18 : ACode := .ops [
 ⟨some 60, none, .q (.mv (.t 9)), []⟩,
 ⟨some 61, none, .q (.bin .mul (.v (.int .u64 10)) (.t 60)), []⟩,
 ⟨some 62, none, .q (.mv (.t 11)), []⟩,
 ⟨some 63, none, .q (.bin .sub (.t 62) (.v (.int .u8 48))), []⟩,
 ⟨some 64, none, .q (.conv .u64 (.t 63)), []⟩,
 ⟨some 65, none, .q (.bin .add (.t 61) (.t 64)), []⟩,
 ⟨some 9, none, .q (.mv (.t 65)), []⟩]
def c89_19 : ACode := .seq c89_17 c89_18
def c89_20 : ACode := .seq c89_12 c89_19
def c89_21 : ACode := .block 1 c89_20
def c89_22 : ACode := .ops [
 ⟨some 66, none, .q (.bin .add (.t 46) (.v (.int .i64 1))), []⟩,
 ⟨some 46, none, .q (.mv (.t 66)), []⟩]
def c89_23 : ACode := .seq c89_21 c89_22
def c89_24 : ACode := .seq c89_11 c89_23
def c89_25 : ACode := .seq c89_10 c89_24
def c89_26 : ACode := .loop c89_25
def c89_27 : ACode := .block 0 c89_26
def c89_28 : ACode := .seq c89_9 c89_27
def c89_29 : ACode := .ops [
 ⟨some 67, none, .q (.mv (.t 5)), []⟩,
 ⟨some 68, none, .q (.mv (.t 9)), []⟩,
 ⟨some 69, none, .e (.call 108 [(.t 67), (.v (.int .u64 0)), (.t 68)]), []⟩,
 ⟨some 70, none, .q (.ext 0 (.t 69)), []⟩,
 ⟨some 71, none, .q (.ext 1 (.t 69)), []⟩,
 ⟨some 2, none, .q (.mv (.t 70)), []⟩,
 ⟨some 3, none, .q (.mv (.t 71)), []⟩]
def c89_30 : ACode := .seq c89_29 .ret
def c89_31 : ACode := .seq c89_28 c89_30
def c89_32 : ACode := .seq c89_8 c89_31
def c89_33 : ACode := .seq c89_7 c89_32
def c89_34 : ACode := .seq c89_2 c89_33
def c89_35 : ACode := .seq c89_1 c89_34
def c89_36 : ACode := .seq c89_0 c89_35
@[go_sem] def c89_0_wp := wp_of c89_0.eq_1
@[go_sem] def c89_1_wp := wp_of c89_1.eq_1
@[go_sem] def c89_2_wp := wp_of c89_2.eq_1
@[go_sem] def c89_3_wp := wp_of c89_3.eq_1
@[go_sem] def c89_4_wp := wp_of c89_4.eq_1
@[go_sem] def c89_5_wp := wp_of c89_5.eq_1
@[go_sem] def c89_6_wp := wp_of c89_6.eq_1
@[go_sem] def c89_7_wp := wp_of c89_7.eq_1
@[go_sem] def c89_8_wp := wp_of c89_8.eq_1
@[go_sem] def c89_9_wp := wp_of c89_9.eq_1
@[go_sem] def c89_10_wp := wp_of c89_10.eq_1
@[go_sem] def c89_11_wp := wp_of c89_11.eq_1
@[go_sem] def c89_12_wp := wp_of c89_12.eq_1
@[go_sem] def c89_13_wp := wp_of c89_13.eq_1
@[go_sem] def c89_14_wp := wp_of c89_14.eq_1
@[go_sem] def c89_15_wp := wp_of c89_15.eq_1
@[go_sem] def c89_16_wp := wp_of c89_16.eq_1
@[go_sem] def c89_17_wp := wp_of c89_17.eq_1
@[go_sem] def c89_18_wp := wp_of c89_18.eq_1
@[go_sem] def c89_19_wp := wp_of c89_19.eq_1
@[go_sem] def c89_20_wp := wp_of c89_20.eq_1
@[go_sem] def c89_21_wp := wp_of c89_21.eq_1
@[go_sem] def c89_22_wp := wp_of c89_22.eq_1
@[go_sem] def c89_23_wp := wp_of c89_23.eq_1
@[go_sem] def c89_24_wp := wp_of c89_24.eq_1
@[go_sem] def c89_25_wp := wp_of c89_25.eq_1
@[go_sem] def c89_26_wp := wp_of c89_26.eq_1
@[go_sem] def c89_27_wp := wp_of c89_27.eq_1
@[go_sem] def c89_28_wp := wp_of c89_28.eq_1
@[go_sem] def c89_29_wp := wp_of c89_29.eq_1
@[go_sem] def c89_30_wp := wp_of c89_30.eq_1
@[go_sem] def c89_31_wp := wp_of c89_31.eq_1
@[go_sem] def c89_32_wp := wp_of c89_32.eq_1
@[go_sem] def c89_33_wp := wp_of c89_33.eq_1
@[go_sem] def c89_34_wp := wp_of c89_34.eq_1
@[go_sem] def c89_35_wp := wp_of c89_35.eq_1
@[go_sem] def c89_36_wp := wp_of c89_36.eq_1
def c89 : AFn := ⟨72, [.t 2, .t 3], c89_36⟩
theorem c89_ok : compF Tryz.prog Tryz.f89 = some c89 := by kernel_rfl
theorem a89 {args : List AV} {σ : ASt} {R : AV → ASt → Prop} (hl : args.length ≤ 72) (h : c89_36.wp Tryz.prog (RetQ [.t 2, .t 3] R) (init args) σ) : ACalls Tryz.prog 89 args σ R := acalls_of Tryz.func89 c89_ok hl h
/-! 103: internal/stringslite.Cut -/
def c103_0 : ACode := .ops [
 ⟨some 4, none, .q (.mv (.v (.str []))), []⟩,
 ⟨some 5, none, .q (.mv (.v (.str []))), []⟩,
 ⟨some 6, none, .q (.mv (.v (.bool false))), []⟩]
def c103_1 : ACode := .ops [
 ⟨some 8, none, .q (.mv (.t 0)), []⟩,
 ⟨some 9, none, .q (.mv (.t 1)), []⟩,
 ⟨some 10, none, .e (.call 106 [(.t 8), (.t 9)]), []⟩,
 ⟨some 7, none, .q (.mv (.t 10)), []⟩]
def c103_2 : ACode := .ops [
 ⟨some 11, none, .q (.mv (.t 7)), []⟩,
 ⟨some 12, none, .q (.bin .geq (.t 11) (.v (.int .i64 0))), []⟩]
def c103_3 : ACode := .ops [
 ⟨some 13, none, .q (.mv (.t 0)), []⟩,
 ⟨some 14, none, .q (.mv (.t 7)), []⟩,
 ⟨some 15, none, .q (.slto (true, 0) (.t 13) (.t 14)), []⟩,
 ⟨some 16, none, .q (.mv (.t 0)), []⟩,
 ⟨some 17, none, .q (.mv (.t 7)), []⟩,
 ⟨some 18, none, .q (.mv (.t 1)), []⟩,
 ⟨some 19, none, .q (.lenS (.t 18)), []⟩,
 ⟨some 20, none, .q (.bin .add (.t 17) (.t 19)), []⟩,
 ⟨some 21, none, .q (.slfrom (true, 0) (.t 16) (.t 20)), []⟩,
 ⟨some 4, none, .q (.mv (.t 15)), []⟩,
 ⟨some 5, none, .q (.mv (.t 21)), []⟩,
 ⟨some 6, none, .q (.mv (.v (.bool true))), []⟩]
def c103_4 : ACode := .seq c103_3 .ret
def c103_5 : ACode := .cond (.t 12) c103_4 .skip
def c103_6 : ACode := .seq c103_2 c103_5
def c103_7 : ACode := .seq c103_1 c103_6
def c103_8 : ACode := .ops [
 ⟨some 22, none, .q (.mv (.t 0)), []⟩,
 ⟨some 4, none, .q (.mv (.t 22)), []⟩,
 ⟨some 5, none, .q (.mv (.v (.str []))), []⟩,
 ⟨some 6, none, .q (.mv (.v (.bool false))), []⟩]
def c103_9 : ACode := .seq c103_8 .ret
def c103_10 : ACode := .seq c103_7 c103_9
def c103_11 : ACode := .seq c103_0 c103_10
@[go_sem] def c103_0_wp := wp_of c103_0.eq_1
@[go_sem] def c103_1_wp := wp_of c103_1.eq_1
@[go_sem] def c103_2_wp := wp_of c103_2.eq_1
@[go_sem] def c103_3_wp := wp_of c103_3.eq_1
@[go_sem] def c103_4_wp := wp_of c103_4.eq_1
@[go_sem] def c103_5_wp := wp_of c103_5.eq_1
@[go_sem] def c103_6_wp := wp_of c103_6.eq_1
@[go_sem] def c103_7_wp := wp_of c103_7.eq_1
@[go_sem] def c103_8_wp := wp_of c103_8.eq_1
@[go_sem] def c103_9_wp := wp_of c103_9.eq_1
@[go_sem] def c103_10_wp := wp_of c103_10.eq_1
@[go_sem] def c103_11_wp := wp_of c103_11.eq_1
def c103 : AFn := ⟨23, [.t 4, .t 5, .t 6], c103_11⟩
theorem c103_ok : compF Tryz.prog Tryz.f103 = some c103 := by kernel_rfl
theorem a103 {args : List AV} {σ : ASt} {R : AV → ASt → Prop} (hl : args.length ≤ 23) (h : c103_11.wp Tryz.prog (RetQ [.t 4, .t 5, .t 6] R) (init args) σ) : ACalls Tryz.prog 103 args σ R := acalls_of Tryz.func103 c103_ok hl h
/-! 108: tabular/deci.made -/
def c108_0 : ACode := .ops [
 ⟨some 6, none, .q (.mv (.v (.int .i64 0))), []⟩,
 ⟨some 7, none, .q (.mv (.v (.bool false))), []⟩]
def c108_1 : ACode := .ops [
 ⟨some 8, none, .q (.mv (.t 1)), []⟩,
 ⟨some 9, none, .q (.bin .gtr (.t 8) (.v (.int .u64 0))), []⟩,
 ⟨some 10, none, .q (.mv (.t 9)), []⟩,
 ⟨some 11, some (10, false), .q (.mv (.t 2)), []⟩,
 ⟨some 12, some (10, false), .q (.bin .gtr (.t 11) (.v (.int .u64 999999999999999999))), []⟩,
 ⟨some 13, none, .q (.pick (.t 10) (.v (.bool true)) (.t 12)), []⟩]
def c108_2 : ACode := .ops [
 ⟨some 6, none, .q (.mv (.v (.int .i64 0))), []⟩,
 ⟨some 7, none, .q (.mv (.v (.bool false))), []⟩]
def c108_3 : ACode := .seq c108_2 .ret
def c108_4 : ACode := .cond (.t 13) c108_3 .skip
def c108_5 : ACode := .seq c108_1 c108_4
def c108_6 : ACode := .ops [
 ⟨some 14, none, .q (.mv (.t 0)), []⟩]
def c108_7 : ACode := .ops [
 ⟨some 15, none, .q (.mv (.t 2)), []⟩,
 ⟨some 16, none, .q (.conv .i64 (.t 15)), []⟩,
 ⟨some 17, none, .q (.un .neg (.t 16)), []⟩,
 ⟨some 6, none, .q (.mv (.t 17)), []⟩,
 ⟨some 7, none, .q (.mv (.v (.bool true))), []⟩]
def c108_8 : ACode := .seq c108_7 .ret
def c108_9 : ACode := .cond (.t 14) c108_8 .skip
def c108_10 : ACode := .seq c108_6 c108_9
def c108_11 : ACode := .ops [
 ⟨some 18, none, .q (.mv (.t 2)), []⟩,
 ⟨some 19, none, .q (.conv .i64 (.t 18)), []⟩,
 ⟨some 6, none, .q (.mv (.t 19)), []⟩,
 ⟨some 7, none, .q (.mv (.v (.bool true))), []⟩]
def c108_12 : ACode := .seq c108_11 .ret
def c108_13 : ACode := .seq c108_10 c108_12
def c108_14 : ACode := .seq c108_5 c108_13
def c108_15 : ACode := .seq c108_0 c108_14
@[go_sem] def c108_0_wp := wp_of c108_0.eq_1
@[go_sem] def c108_1_wp := wp_of c108_1.eq_1
@[go_sem] def c108_2_wp := wp_of c108_2.eq_1
@[go_sem] def c108_3_wp := wp_of c108_3.eq_1
@[go_sem] def c108_4_wp := wp_of c108_4.eq_1
@[go_sem] def c108_5_wp := wp_of c108_5.eq_1
@[go_sem] def c108_6_wp := wp_of c108_6.eq_1
@[go_sem] def c108_7_wp := wp_of c108_7.eq_1
@[go_sem] def c108_8_wp := wp_of c108_8.eq_1
@[go_sem] def c108_9_wp := wp_of c108_9.eq_1
@[go_sem] def c108_10_wp := wp_of c108_10.eq_1
@[go_sem] def c108_11_wp := wp_of c108_11.eq_1
@[go_sem] def c108_12_wp := wp_of c108_12.eq_1
@[go_sem] def c108_13_wp := wp_of c108_13.eq_1
@[go_sem] def c108_14_wp := wp_of c108_14.eq_1
@[go_sem] def c108_15_wp := wp_of c108_15.eq_1
def c108 : AFn := ⟨20, [.t 6, .t 7], c108_15⟩
theorem c108_ok : compF Tryz.prog Tryz.f108 = some c108 := by kernel_rfl
theorem a108 {args : List AV} {σ : ASt} {R : AV → ASt → Prop} (hl : args.length ≤ 20) (h : c108_15.wp Tryz.prog (RetQ [.t 6, .t 7] R) (init args) σ) : ACalls Tryz.prog 108 args σ R := acalls_of Tryz.func108 c108_ok hl h
end Go.A
namespace Go.A
open Go.Proofs
theorem cut_ok (l : List UInt8) (n : Nat) : Pure Tryz.prog 6 [.str l, .int .i64 n] (.str (l.take n)) := by
 intro σ
 refine a6 (by simp) ?_
 by_cases h : n < l.length
 ·have h' : (n : Int) < l.length := by omega
  simp (disch := first | assumption | omega) only [go_sem, reduceCtorEq, Nat.reduceEqDiff, ↓reduceIte, h']
  exact retC_by (by repeat' (first | exact Drop.refl _ | with_reducible refine Drop.off ?_ (by assumption))) (.refl _) ⟨rfl, rfl⟩
 ·have h' : ¬ (n : Int) < l.length := by omega
  simp (disch := first | assumption | omega) only [go_sem, reduceCtorEq, Nat.reduceEqDiff, ↓reduceIte, h']
  exact retC_by (by repeat' (first | exact Drop.refl _ | with_reducible refine Drop.off ?_ (by assumption))) (.refl _) ⟨by rw [List.take_of_length_le (by omega)]; rfl, rfl⟩
def greatC (c : UInt8) : UInt8 := if 97 ≤ c.toNat ∧ c.toNat ≤ 122 then UInt8.ofNat (c.toNat - 32) else c
def greatP (l : List UInt8) : List UInt8 := l.map greatC
end Go.A
namespace Go.A
open Go.Proofs Go.Lib
def signsN (l : List UInt8) : Nat := runeCount ⟨⟨l⟩⟩
theorem signsN_le (l : List UInt8) : signsN l ≤ l.length := runeCount_le ⟨⟨l⟩⟩
def wordB (c : UInt8) : Bool := decide ((48 ≤ c.toNat ∧ c.toNat ≤ 57) ∨ (97 ≤ c.toNat ∧ c.toNat ≤ 122) ∨ (65 ≤ c.toNat ∧ c.toNat ≤ 90) ∨ c.toNat = 95 ∨ c.toNat = 36 ∨ c.toNat = 46)
def digB (c : UInt8) : Bool := decide (48 ≤ c.toNat ∧ c.toNat ≤ 57)
def nameB (s : List UInt8) : Bool := decide (s ≠ []) && s.all (fun c => wordB c && decide (c.toNat ≠ 36)) && !((s.head?.map fun c => digB c || decide (c.toNat = 46)).getD false)
def cutDot : List UInt8 → List UInt8 × Option (List UInt8)
 | [] => ([], none)
 | c :: r => if c.toNat = 46 then ([], some r) else (c :: (cutDot r).1, (cutDot r).2)
def numB (s : List UInt8) : Bool :=
 match cutDot s with
 | (w, none) => decide (w ≠ []) && w.all digB
 | (w, some p) => decide (w ≠ []) && decide (p ≠ []) && decide (p.length ≤ 4) && (w ++ p).all digB
def refB (s : List UInt8) : Bool := (parseP s).2
inductive Step where
 | bad (k : Nat)
 | blank
 | tok (kind : Int) (text : List UInt8) (n : Nat)
 deriving DecidableEq
def wordsS (r : List UInt8) : Step :=
 let n := runL wordB r
 let w := r.take n
 if numB w then .tok 1 w n else if refB w then .tok 4 (greatP w) n else if nameB w then .tok 3 (greatP w) n else .bad 0
def quotedF : Nat → List UInt8 → Nat → List UInt8 → Step
 | 0, _, _, _ => .bad 0
 | k + 1, r, p, acc =>
   if r = [] then .bad 0
   else if decodeL r = (65533, 1) then .bad (1 + p)
   else if (decodeL r).1 ≠ 34 then quotedF k (r.drop (decodeL r).2) (p + (decodeL r).2) (acc ++ encodeRune ((decodeL r).1 : Int))
   else if r[1]? = some 34 then quotedF k (r.drop 2) (p + 2) (acc ++ [34])
   else .tok 2 acc (p + 2)
def errTexts : List (List UInt8) := [[35, 68, 73, 86, 47, 48, 33], [35, 78, 85, 77, 33], [35, 86, 65, 76, 85, 69, 33], [35, 82, 69, 70, 33], [35, 78, 47, 65], [35, 78, 65, 77, 69, 63], [35, 67, 89, 67, 76, 69, 33]]
def failS (r : List UInt8) : List (List UInt8) → Step
 | [] => .bad 0
 | e :: es => if e.length ≤ r.length ∧ greatP (r.take e.length) = e then .tok 5 e e.length else failS r es
def alikeP (c : Int) : List UInt8 :=
 if c = 8804 then [60, 61] else if c = 8805 then [62, 61] else if c = 8800 then [60, 62] else if c = 215 then [42] else if c = 247 then [47] else if c = 8722 then [45] else []
def twos : List (List UInt8) := [[60, 61], [62, 61], [60, 62]]
def twoS (r : List UInt8) : List (List UInt8) → Option (List UInt8)
 | [] => none
 | e :: es => if e.isPrefixOf r then some e else twoS r es
def opChars : List UInt8 := [43, 45, 42, 47, 94, 38, 61, 60, 62, 37, 40, 41, 58, 44]
def opS (c : Int) (n : Nat) (r : List UInt8) : Step :=
 if alikeP c ≠ [] then .tok 6 (alikeP c) n
 else match twoS r twos with
  | some e => .tok 6 e 2
  | none => if (r.headD 0) ∈ opChars then .tok 6 (r.take 1) 1 else .bad 0
def stepP (r : List UInt8) : Step :=
 let c := (decodeL r).1
 if decodeL r = (65533, 1) then .bad 0
 else if c = 32 ∨ c = 9 ∨ c = 10 then .blank
 else if c < 128 ∧ wordB (UInt8.ofNat c) = true then wordsS r
 else if c = 34 then quotedF (r.length) (r.drop 1) 0 []
 else if c = 35 then failS r errTexts
 else opS c (decodeL r).2 r
structure Tok where
 kind : Int
 text : List UInt8
 at' : Nat
 col : Nat
 deriving DecidableEq
def lexF : Nat → List UInt8 → Nat → Nat → List Tok → List Tok × Nat × Int
 | 0, _, a, _, acc => ([], a, 10)
 | k + 1, r, a, c, acc =>
   if r = [] then (acc ++ [⟨0, [], a, c⟩], 0, 0)
   else match stepP r with
    | .bad j => ([], a + j, 10)
    | .blank => lexF k (r.drop 1) (a + 1) (c + 1) acc
    | .tok kind t n => lexF k (r.drop n) (a + n) (c + signsN (r.take n)) (acc ++ [⟨kind, t, a, c⟩])
def lexP (s : List UInt8) : List Tok × Nat × Int := if 2000 < s.length then ([], 0, 11) else lexF (s.length + 1) s 0 0 []
def sgF : Nat → List UInt8 → Option Nat
 | 0, _ => none
 | k + 1, r => if r = [] then some 0 else if decodeL r = (65533, 1) then none else (sgF k (r.drop (decodeL r).2)).map (· + 1)
def tokAV (t : Tok) : AV := .agg [.int .i64 t.kind, .str t.text, .int .i64 t.at', .int .i64 t.col]
end Go.A
namespace Go.A
open Go.Proofs Go.Lib
def accTab : List Int := (List.range 16).flatMap fun i => [(accLo i : Int), (accHi i : Int)]
def U8 (σ : ASt) : Prop := σ 1 = some (.fix (firstTab.map (AV.int .u8))) ∧ σ 2 = some (.fix (accTab.map (AV.int .u8)))
theorem U8.of_eq {σ σ' : ASt} (h : U8 σ) (h1 : σ' 1 = σ 1) (h2 : σ' 2 = σ 2) : U8 σ' := ⟨h1.trans h.1, h2.trans h.2⟩
theorem U8.set {σ : ASt} {b : Nat} {r : Option Role} (h : U8 σ) (hb : σ b = none) : U8 (σ.set b r) := by
 refine h.of_eq (ASt.set_ne ?_) (ASt.set_ne ?_) <;> rintro rfl
 ·rw [h.1] at hb; cases hb
 ·rw [h.2] at hb; cases hb
theorem fix_ints {σ : ASt} {w : World} (hs : Sim σ w) {b : Nat} {k : IntKind} {zs : List Int} (h : σ b = some (.fix (zs.map (AV.int k)))) : ∀ j z, zs[j]? = some z → w.cell? ⟨b, j, none⟩ = some (.int k z) := by
 intro j z hj
 obtain ⟨vs, h4, h5⟩ := (hs b _ h).1.vals
 have h6 := reps_ints h4
 subst h6
 have := h5 j (Value.int k z) (by simp [hj])
 simpa using this
theorem u8_tabs {σ : ASt} {w : World} (hs : Sim σ w) (h : U8 σ) : Utf8Tabs 1 2 w := by
 refine ⟨fun c hc => fix_ints hs h.1 c _ (by simp [firstTab, hc]), fun i hi => ?_⟩
 have key : ∀ i, i < 16 → accTab[2 * i]? = some (accLo i : Int) ∧ accTab[2 * i + 1]? = some (accHi i : Int) := by decide
 exact ⟨fix_ints hs h.2 _ _ (key i hi).1, fix_ints hs h.2 _ _ (key i hi).2⟩
theorem ACalls.of_below {P : Program} {σ : ASt} {f : FuncId} {args : List AV} {r : AV} {u : Value} (h : ∀ w vs, Sim σ w → Reps σ w args vs → Calls P f ⟨vs⟩ w fun e w' => e = .returned u ∧ RowKit.Below w.heap.size w w') (hr : ∀ w, Rep σ w r u) : ACalls P f args σ fun v σ' => v = r ∧ σ' = σ :=
 ACalls.of_ext (fun w vs hs ha => (h w vs hs ha).mono fun e w' ⟨he, hb⟩ => ⟨he, Ext.of_below hb⟩) hr
theorem dec_ok {σ : ASt} (h : U8 σ) {l : List UInt8} (h0 : l ≠ []) : ACalls Tryz.prog 61 [.str l] σ fun v σ' => v = .tuple [.int .i32 (decodeL l).1, .int .i64 (decodeL l).2] ∧ σ' = σ := by
 refine ACalls.of_below (u := .tuple #[.int .i32 (decodeL l).1, .int .i64 (decodeL l).2]) (fun w vs hs ha => ?_) fun w => .tuple (.cons (.int _ _) (.cons (.int _ _) .nil))
 cases ha with
 | cons h1 h2 =>
 cases h1; cases h2
 have := Tryz.utf8_DecodeRuneInString ⟨⟨l⟩⟩ w (u8_tabs hs h)
 have e : decodeGo ⟨⟨l⟩⟩ = decodeL l := by
  unfold decodeGo decodeL
  rw [if_neg (by cases l; exact absurd rfl h0; simp [ByteArray.size])]
 rw [e] at this
 exact this
theorem count_ok (l : List UInt8) (hl : l.length < 9223372036854775807) : Pure Tryz.prog 45 [.str l] (.int .i64 (signsN l)) := by
 intro σ
 refine ACalls.of_ext (u := .int .i64 (signsN l)) (fun w vs hs ha => ?_) fun w => .int _ _
 cases ha with
 | cons h1 h2 =>
 cases h1; cases h2
 refine (Tryz.utf8_RuneCountInString ⟨⟨l⟩⟩ w (by simpa [ByteArray.size] using hl)).mono ?_
 rintro e w' ⟨rfl, pos, rfl⟩
 exact ⟨rfl, Ext.alloc (Ext.refl w) _⟩
theorem runeLen_ok (r : Int) : Pure Tryz.prog 67 [.int .i32 r] (.int .i64 (runeLen r)) := by
 intro σ
 refine ACalls.of_ext (u := .int .i64 (runeLen r)) (fun w vs hs ha => ?_) fun w => .int _ _
 cases ha with
 | cons h1 h2 =>
 cases h1; cases h2
 exact (Tryz.utf8_RuneLen r w).mono fun e w' ⟨he, hw⟩ => ⟨he, Ext.of_eq hw⟩
theorem prefix_ok (s p : List UInt8) (hs : s.length ≤ 1000000000) (hp : p.length ≤ 1000000000) : Pure Tryz.prog 69 [.str s, .str p] (.bool (p.isPrefixOf s)) := by
 intro σ
 refine ACalls.of_ext (u := .bool (p.isPrefixOf s)) (fun w vs hs ha => ?_) fun w => .bool _
 cases ha with
 | cons h1 h2 =>
 cases h2 with
 | cons h2 h3 =>
 cases h1; cases h2; cases h3
 refine (Tryz.strings_HasPrefix ⟨⟨s⟩⟩ ⟨⟨p⟩⟩ w).mono fun e w' ⟨he, hw⟩ => ⟨?_, Ext.of_eq hw⟩
 rw [he]
 rfl
theorem contains_ok (s : List UInt8) (c : UInt8) : Pure Tryz.prog 70 [.str s, .str [c]] (.bool (decide (0 ≤ indexByte s c))) := by
 intro σ
 refine ACalls.of_ext (u := .bool (decide (0 ≤ indexByte s c))) (fun w vs hs ha => ?_) fun w => .bool _
 cases ha with
 | cons h1 h2 =>
 cases h2 with
 | cons h2 h3 =>
 cases h1; cases h2; cases h3
 exact (Tryz.strings_Contains_one ⟨⟨s⟩⟩ c w).mono fun e w' ⟨he, hw⟩ => ⟨he, Ext.of_eq hw⟩
theorem index_ok (s : List UInt8) (c : UInt8) : Pure Tryz.prog 106 [.str s, .str [c]] (.int .i64 (indexByte s c)) := by
 intro σ
 refine ACalls.of_ext (u := .int .i64 (indexByte s c)) (fun w vs hs ha => ?_) fun w => .int _ _
 cases ha with
 | cons h1 h2 =>
 cases h2 with
 | cons h2 h3 =>
 cases h1; cases h2; cases h3
 exact (Tryz.stringslite_Index_one ⟨⟨s⟩⟩ c w).mono fun e w' ⟨he, hw⟩ => ⟨he, Ext.of_eq hw⟩
end Go.A
namespace Go.A
open Go.Proofs
theorem names_back1 : (List.range 700).all (fun i => decide (columnP (lettersP i) = ((i : Int), true))) = true := by decide +kernel
theorem names_back {a : Int} (h0 : 0 ≤ a) (h1 : a < 700) : columnP (lettersP a) = (a, true) := by
 obtain ⟨n, rfl⟩ : ∃ n : Nat, a = n := ⟨a.toNat, by omega⟩
 have := List.all_eq_true.1 names_back1 n (List.mem_range.2 (by omega))
 simpa using this
theorem lettersF_len : ∀ k n, (lettersF k n).length ≤ k
 | 0, n => Nat.le_refl _
 | k + 1, n => by
   unfold lettersF
   split
   ·exact Nat.zero_le _
   ·have := lettersF_len k ((n - 1) / 26)
    simp; omega
theorem letters_len (c : Int) : (lettersP c).length ≤ 4 := by
 unfold lettersP
 split
 ·exact Nat.zero_le _
 ·exact lettersF_len _ _
end Go.A
namespace Go.A
open Go.Proofs
def digF : Nat → Nat → List UInt8
 | 0, _ => []
 | k + 1, n => if n < 10 then [UInt8.ofNat (48 + n)] else digF k (n / 10) ++ [UInt8.ofNat (48 + n % 10)]
theorem digF_eq : ∀ (k n : Nat), n < 10 ^ (k + 1) → Lib.decDigits n = digF (k + 1) n
 | 0, n, h => by
   rw [Lib.decDigits, dif_pos (by omega)]
   unfold digF
   rw [if_pos (by omega)]
 | k + 1, n, h => by
   rw [Lib.decDigits]
   unfold digF
   by_cases h1 : n < 10
   ·rw [dif_pos h1, if_pos h1]
   ·rw [dif_neg h1, if_neg h1, digF_eq k (n / 10) (by rw [Nat.pow_succ] at h; omega)]
def numT (row : Int) : List UInt8 := digF 4 (row + 1).toNat
theorem itoa_num {row : Int} (h0 : 0 ≤ row) (h1 : row < 3000) : Lib.itoa (row + 1) = numT row := by
 unfold Lib.itoa numT
 rw [if_neg (by omega), digF_eq 3 _ (by omega)]
theorem num_all : (List.range 3000).all (fun i => decide (numF 0 (numT i) = (i : Int) + 1) && (numT i).all isD && decide (1 ≤ (numT i).length) && decide ((numT i).length ≤ 4) && decide (atP (numT i) 0 ≠ 48)) = true := by decide +kernel
theorem num_facts {row : Int} (h0 : 0 ≤ row) (h1 : row < 3000) : numF 0 (numT row) = row + 1 ∧ (∀ c ∈ numT row, isD c = true) ∧ 1 ≤ (numT row).length ∧ (numT row).length ≤ 4 ∧ atP (numT row) 0 ≠ 48 := by
 obtain ⟨i, rfl⟩ : ∃ i : Nat, row = i := ⟨row.toNat, by omega⟩
 have := List.all_eq_true.1 num_all i (List.mem_range.2 (by omega))
 simpa [and_assoc] using this
theorem let_all : (List.range 700).all (fun i => (lettersP i).all isL && decide (1 ≤ (lettersP i).length)) = true := by decide +kernel
theorem let_facts {col : Int} (h0 : 0 ≤ col) (h1 : col < 700) : (∀ c ∈ lettersP col, isL c = true) ∧ 1 ≤ (lettersP col).length := by
 obtain ⟨i, rfl⟩ : ∃ i : Nat, col = i := ⟨col.toNat, by omega⟩
 have := List.all_eq_true.1 let_all i (List.mem_range.2 (by omega))
 simpa using this
theorem atP_app (p x : List UInt8) : atP (p ++ x) p.length = atP x 0 := by
 unfold atP
 rw [List.getElem?_append_right (Nat.le_refl _), Nat.sub_self]
theorem atP_0 {l x : List UInt8} (h : 1 ≤ l.length) : atP (l ++ x) 0 = atP l 0 := by
 unfold atP
 rw [List.getElem?_append_left (by omega)]
theorem atP_all {l : List UInt8} {p : UInt8 → Bool} (h : ∀ c ∈ l, p c = true) (h1 : 1 ≤ l.length) : ∃ c : UInt8, p c = true ∧ atP l 0 = c.toNat := by
 cases l with
 | nil => simp at h1
 | cons c l => exact ⟨c, h c (by simp), rfl⟩
theorem runL_app {p : UInt8 → Bool} {x : List UInt8} (hx : ∀ c, x[0]? = some c → p c = false) : ∀ {l : List UInt8}, (∀ c ∈ l, p c = true) → runL p (l ++ x) = l.length
 | [], _ => by
   cases x with
   | nil => rfl
   | cons c x =>
     simp only [List.nil_append, runL, hx c rfl]
     rfl
 | c :: l, h => by
   simp only [List.cons_append, runL, h c (by simp), if_true, List.length_cons]
   rw [runL_app hx fun c hc => h c (by simp [hc])]
theorem numF_app {x : List UInt8} (hx : ∀ c, x[0]? = some c → isD c = false) : ∀ {l : List UInt8} {n : Int}, (∀ c ∈ l, isD c = true) → numF n (l ++ x) = numF n l
 | [], n, _ => by
   cases x with
   | nil => rfl
   | cons c x =>
     simp only [List.nil_append, numF, hx c rfl]
     rfl
 | c :: l, n, h => by
   simp only [List.cons_append, numF, h c (by simp), if_true]
   exact numF_app hx fun c hc => h c (by simp [hc])
theorem d_not_l (c : UInt8) (h : isD c = true) : isL c = false := by
 simp only [isD, decide_eq_true_eq] at h
 unfold isL letterP
 rw [if_neg (by omega), if_neg (by omega)]
 rfl
def dolP (b : Bool) : List UInt8 := if b then [36] else []
def textP (r : Ref) : List UInt8 := dolP r.absCol ++ lettersP r.col ++ dolP r.absRow ++ numT r.row
def Behind (x : List UInt8) : Prop := x = [] ∨ ∃ y, x = 58 :: y
theorem readQ_text {p x : List UInt8} (hx : Behind x) {row : Int} (h0 : 0 ≤ row) (h1 : row < 3000) (col : Int) (ar ac : Bool) :
  readQ (p ++ (numT row ++ x)) p.length col ar ac = (⟨row, col, ar, ac⟩, ((p.length + (numT row).length : Nat) : Int)) := by
 obtain ⟨n1, n2, n3, n4, n5⟩ := num_facts h0 h1
 have hxd : ∀ c, x[0]? = some c → isD c = false := by
  rcases hx with rfl | ⟨y, rfl⟩
  ·intro c hc; simp at hc
  ·intro c hc; simp at hc; subst hc; decide
 have hxa : atP x 0 = 0 ∨ atP x 0 = 58 := by
  rcases hx with rfl | ⟨y, rfl⟩
  ·exact .inl rfl
  ·exact .inr rfl
 have e1 : (p ++ (numT row ++ x)).drop p.length = numT row ++ x := by simp
 have e2 : runL isD (numT row ++ x) = (numT row).length := runL_app hxd n2
 have e3 : numF 0 (numT row ++ x) = row + 1 := by rw [numF_app hxd n2, n1]
 have e4 : atP (p ++ (numT row ++ x)) p.length = atP (numT row) 0 := by rw [atP_app, atP_0 n3]
 have e5 : atP (p ++ (numT row ++ x)) (p.length + (numT row).length) = atP x 0 := by
  rw [← List.append_assoc, ← List.length_append, atP_app]
 unfold readQ
 rw [e1, e2, e3, e4, e5, if_neg]
 ·rw [show row + 1 - 1 = row by omega]
 ·rintro (h | h | h | h | h)
  ·omega
  ·omega
  ·exact n5 h
  ·rcases hxa with h2 | h2 <;> rw [h2] at h <;> revert h <;> decide
  ·rcases hxa with h2 | h2 <;> rw [h2] at h <;> revert h <;> decide
theorem readR_text {p x : List UInt8} (hx : Behind x) {r : Ref} (hg : r.good = true) (ac : Bool) :
  readR (p ++ (lettersP r.col ++ (dolP r.absRow ++ (numT r.row ++ x)))) p.length ac = (⟨r.row, r.col, r.absRow, ac⟩, ((p.length + (lettersP r.col).length + (dolP r.absRow).length + (numT r.row).length : Nat) : Int)) := by
 simp only [Ref.good, decide_eq_true_eq] at hg
 obtain ⟨g1, g2, g3, g4⟩ := hg
 obtain ⟨l1, l2⟩ := let_facts g3 g4
 obtain ⟨n1, n2, n3, n4, n5⟩ := num_facts g1 g2
 obtain ⟨d, d1, d2⟩ := atP_all n2 n3
 have hXl : ∀ c, (dolP r.absRow ++ (numT r.row ++ x))[0]? = some c → isL c = false := by
  intro c hc
  cases har : r.absRow with
  | true => rw [har] at hc; simp [dolP] at hc; subst hc; decide
  | false =>
    rw [har] at hc
    simp only [dolP, Bool.false_eq_true, if_false, List.nil_append] at hc
    rw [List.getElem?_append_left (by omega)] at hc
    exact d_not_l c (n2 c (List.mem_of_getElem? hc))
 have e1 : (p ++ (lettersP r.col ++ (dolP r.absRow ++ (numT r.row ++ x)))).drop p.length = lettersP r.col ++ (dolP r.absRow ++ (numT r.row ++ x)) := by simp
 have e2 : runL isL (lettersP r.col ++ (dolP r.absRow ++ (numT r.row ++ x))) = (lettersP r.col).length := runL_app hXl l1
 have e3 : ((p ++ (lettersP r.col ++ (dolP r.absRow ++ (numT r.row ++ x)))).take (p.length + (lettersP r.col).length)).drop p.length = lettersP r.col := by
  rw [← List.append_assoc, ← List.length_append, List.take_left, List.drop_left]
 have e4 : atP (p ++ (lettersP r.col ++ (dolP r.absRow ++ (numT r.row ++ x)))) (p.length + (lettersP r.col).length) = atP (dolP r.absRow ++ (numT r.row ++ x)) 0 := by
  rw [← List.append_assoc, ← List.length_append, atP_app]
 unfold readR
 rw [e1, e2, e3, e4, names_back g3 g4, if_neg (by simp)]
 cases har : r.absRow with
 | true =>
   rw [if_pos (by rfl)]
   have := readQ_text (p := p ++ lettersP r.col ++ [36]) hx g1 g2 r.col true ac
   simp only [List.append_assoc, List.length_append, List.length_cons, List.length_nil, List.singleton_append, Nat.zero_add, ← Nat.add_assoc] at this
   simp only [dolP, if_true, List.singleton_append, List.length_cons, List.length_nil, Nat.zero_add]
   exact this
 | false =>
   have hne : ¬ atP (dolP false ++ (numT r.row ++ x)) 0 = 36 := by
    simp only [dolP, Bool.false_eq_true, if_false, List.nil_append]
    rw [atP_0 n3, d2]
    simp only [isD, decide_eq_true_eq] at d1
    omega
   rw [if_neg hne]
   have := readQ_text (p := p ++ lettersP r.col) hx g1 g2 r.col false ac
   simp only [List.append_assoc, List.length_append] at this
   simp only [dolP, Bool.false_eq_true, if_false, List.nil_append, List.length_nil, Nat.add_zero]
   exact this
theorem read_text {x : List UInt8} (hx : Behind x) {r : Ref} (hg : r.good = true) : readP (textP r ++ x) = (r, ((textP r).length : Int)) := by
 have hg' := hg
 simp only [Ref.good, decide_eq_true_eq] at hg'
 obtain ⟨g1, g2, g3, g4⟩ := hg'
 obtain ⟨l1, l2⟩ := let_facts g3 g4
 obtain ⟨d, d1, d2⟩ := atP_all l1 l2
 obtain ⟨row, col, ar, ac⟩ := r
 unfold readP textP
 simp only [List.append_assoc]
 cases ac with
 | true =>
   rw [if_pos (by rfl)]
   have := readR_text (p := [36]) hx hg true
   simp only [dolP, if_true] at this ⊢
   refine this.trans ?_
   congr 1
   simp only [List.length_append, List.length_cons, List.length_nil]
   omega
 | false =>
   have hne : ¬ atP (dolP false ++ (lettersP col ++ (dolP ar ++ (numT row ++ x)))) 0 = 36 := by
    simp only [dolP, Bool.false_eq_true, if_false, List.nil_append]
    rw [atP_0 l2, d2]
    intro h
    simp only [isL, decide_eq_true_eq] at d1
    rw [h] at d1
    revert d1
    decide
   rw [if_neg hne]
   have := readR_text (p := []) hx hg false
   simp only [List.nil_append, List.length_nil, Nat.zero_add] at this
   simp only [dolP, Bool.false_eq_true, if_false, List.nil_append] at this ⊢
   refine this.trans ?_
   congr 1
   simp only [List.length_append]
   omega
theorem text_len {r : Ref} (hg : r.good = true) : 2 ≤ (textP r).length ∧ (textP r).length ≤ 10 := by
 simp only [Ref.good, decide_eq_true_eq] at hg
 obtain ⟨g1, g2, g3, g4⟩ := hg
 obtain ⟨l1, l2⟩ := let_facts g3 g4
 obtain ⟨n1, n2, n3, n4, n5⟩ := num_facts g1 g2
 have := letters_len r.col
 unfold textP dolP
 simp only [List.length_append]
 constructor
 ·omega
 ·split <;> split <;> simp <;> omega
theorem parse_text {r : Ref} (hg : r.good = true) : parseP (textP r) = (r, true) := by
 have h := read_text (x := []) (.inl rfl) hg
 rw [List.append_nil] at h
 have := text_len hg
 unfold parseP
 rw [h, if_neg (by dsimp only; omega)]
end Go.A
namespace Go.A
inductive Nd where
 | mk (op n : Int) (s : List UInt8) (a b : Ref) (kids : List Nd)
instance : Inhabited Nd := ⟨.mk 0 0 [] .zero .zero []⟩
def Nd.op : Nd → Int | .mk op _ _ _ _ _ => op
mutual
def Nd.av : Nd → AV
 | .mk op n s a b kids => .agg [.int .i64 op, .int .i64 n, .str s, .int .i64 a.row, .int .i64 a.col, .bool a.absRow, .bool a.absCol, .int .i64 b.row, .int .i64 b.col, .bool b.absRow, .bool b.absCol, .sl .shr (Nd.avs kids)]
def Nd.avs : List Nd → List AV
 | [] => []
 | x :: xs => x.av :: Nd.avs xs
end
theorem Nd.avs_map : ∀ l : List Nd, Nd.avs l = l.map Nd.av
 | [] => rfl
 | x :: xs => by rw [Nd.avs, Nd.avs_map xs]; rfl
theorem Nd.av_eq (op n : Int) (s : List UInt8) (a b : Ref) (kids : List Nd) : (Nd.mk op n s a b kids).av = .agg [.int .i64 op, .int .i64 n, .str s, .int .i64 a.row, .int .i64 a.col, .bool a.absRow, .bool a.absCol, .int .i64 b.row, .int .i64 b.col, .bool b.absRow, .bool b.absCol, .sl .shr (kids.map Nd.av)] := by
 rw [Nd.av, Nd.avs_map]
def Nd.cs (op n : Int) (s : List UInt8) (a b : Ref) (L : List AV) : List AV := [.int .i64 op, .int .i64 n, .str s, .int .i64 a.row, .int .i64 a.col, .bool a.absRow, .bool a.absCol, .int .i64 b.row, .int .i64 b.col, .bool b.absRow, .bool b.absCol, .sl .shr L]
theorem Nd.av_cs (op n : Int) (s : List UInt8) (a b : Ref) (kids : List Nd) : (Nd.mk op n s a b kids).av = .agg (Nd.cs op n s a b (kids.map Nd.av)) := Nd.av_eq ..
section
variable {op n : Int} {s : List UInt8} {a b : Ref} {L : List AV}
@[go_sem] theorem cs_0 : (Nd.cs op n s a b L)[0]? = some (.int .i64 op) := id rfl
@[go_sem] theorem cs_1 : (Nd.cs op n s a b L)[1]? = some (.int .i64 n) := id rfl
@[go_sem] theorem cs_2 : (Nd.cs op n s a b L)[2]? = some (.str s) := id rfl
@[go_sem] theorem cs_11 : (Nd.cs op n s a b L)[11]? = some (.sl .shr L) := id rfl
@[go_sem] theorem cs_len : (Nd.cs op n s a b L).length = 12 := id rfl
@[go_sem] theorem cs_leaves : leaves (Nd.cs op n s a b L) = true := id rfl
@[go_sem] theorem cs_take : (Nd.cs op n s a b L).take 12 = Nd.cs op n s a b L := id rfl
@[go_sem] theorem cs_ta : ((Nd.cs op n s a b L).drop 3).take 4 = [.int .i64 a.row, .int .i64 a.col, .bool a.absRow, .bool a.absCol] := id rfl
@[go_sem] theorem cs_tb : ((Nd.cs op n s a b L).drop 7).take 4 = [.int .i64 b.row, .int .i64 b.col, .bool b.absRow, .bool b.absCol] := id rfl
end
theorem Nd.av_len (n : Nd) : n.av.cells.length = 12 := by cases n; rfl
theorem Nd.av_leaves (n : Nd) : leaves n.av.cells = true := by cases n; rfl
theorem Nd.get {l : List Nd} {i : Nat} {x : Nd} (h : l[i]? = some x) : (l.map Nd.av)[i]? = some x.av := by rw [List.getElem?_map, h]; rfl
mutual
theorem Nd.deep : ∀ n : Nd, Go.A.deep n.av = n.av
 | .mk op n s a b kids => by
   rw [Nd.av, Go.A.deep]
   simp only [Go.A.deeps, Go.A.deep, Nd.deeps kids]
theorem Nd.deeps : ∀ l : List Nd, Go.A.deeps (Nd.avs l) = Nd.avs l
 | [] => rfl
 | x :: xs => by rw [Nd.avs, Go.A.deeps, Nd.deep x, Nd.deeps xs]
end
mutual
def Nd.size : Nd → Nat
 | .mk _ _ _ _ _ kids => 1 + Nd.sizes kids
def Nd.sizes : List Nd → Nat
 | [] => 0
 | x :: xs => x.size + Nd.sizes xs
end
theorem Nd.size_kid : ∀ {l : List Nd} {x : Nd}, x ∈ l → x.size ≤ Nd.sizes l
 | [], _, h => by cases h
 | y :: l, x, h => by
   rw [Nd.sizes]
   rcases List.mem_cons.1 h with rfl | h
   ·omega
   ·have := Nd.size_kid h; omega
theorem Nd.size_pos (n : Nd) : 0 < n.size := by cases n; rw [Nd.size]; omega
def levelP (op : Int) : Int :=
 if op = 7 ∨ op = 8 then 6 else if op = 9 then 7 else if op < 10 ∨ 22 ≤ op then 8
 else if op ≤ 11 then 3 else if op ≤ 13 then 4 else if op = 14 then 5 else if op = 15 then 2 else 1
def signL : List (List UInt8) := [[43], [45], [42], [47], [94], [38], [61], [60, 62], [60], [60, 61], [62], [62, 61]]
def errL : List (List UInt8) := [[35, 68, 73, 86, 47, 48, 33], [35, 78, 85, 77, 33], [35, 86, 65, 76, 85, 69, 33], [35, 82, 69, 70, 33], [35, 78, 47, 65], [35, 78, 65, 77, 69, 63], [35, 67, 89, 67, 76, 69, 33]]
def failT (op n : Int) : List UInt8 := if op ≠ 4 ∨ n.tdiv 10000 < 1 ∨ 7 < n.tdiv 10000 then [] else errL.getD (n.tdiv 10000 - 1).toNat []
def truthP (b : Bool) : List UInt8 := if b = true then [84, 82, 85, 69] else [70, 65, 76, 83, 69]
def quotT (s : List UInt8) : List UInt8 := 34 :: (s.flatMap fun c => if c = 34 then [34, 34] else [c]) ++ [34]
def insT (least : Int) (op : Int) (t : List UInt8) : List UInt8 := if least ≤ levelP op then t else 40 :: t ++ [41]
def joinC : List (Int × List UInt8) → List UInt8
 | [] => []
 | p :: r => p.2 ++ r.flatMap fun q => 44 :: q.2
def spellK (op n : Int) (s : List UInt8) (a b : Ref) (ks : List (Int × List UInt8)) : List UInt8 :=
 if op = 1 then textD n else if op = 2 then quotT s else if op = 3 then truthP (!decide (n = 0)) else if op = 4 then failT op n else if op = 5 then textP a else if op = 6 then textP a ++ [58] ++ textP b
 else if op = 7 ∨ op = 8 then (if op = 7 then 45 else 43) :: insT 6 (ks.getD 0 (0, [])).1 (ks.getD 0 (0, [])).2
 else if op = 9 then insT 7 (ks.getD 0 (0, [])).1 (ks.getD 0 (0, [])).2 ++ [37]
 else if op = 22 then s ++ 40 :: joinC ks ++ [41]
 else if op = 23 then []
 else insT (levelP op) (ks.getD 0 (0, [])).1 (ks.getD 0 (0, [])).2 ++ signL.getD (op - 10).toNat [] ++ insT (levelP op + 1) (ks.getD 1 (0, [])).1 (ks.getD 1 (0, [])).2
mutual
def Nd.spell : Nd → List UInt8
 | .mk op n s a b kids => spellK op n s a b (Nd.spells kids)
def Nd.spells : List Nd → List (Int × List UInt8)
 | [] => []
 | x :: xs => (x.op, x.spell) :: Nd.spells xs
end
theorem Nd.spells_map : ∀ l : List Nd, Nd.spells l = l.map fun x => (x.op, x.spell)
 | [] => rfl
 | x :: xs => by rw [Nd.spells, Nd.spells_map xs]; rfl
def nodeOk (op n : Int) (s : List UInt8) (a b : Ref) (k : Nat) : Prop :=
 (1 ≤ op ∧ op ≤ 23) ∧ (op = 1 → n.natAbs ≤ 999999999999999999) ∧ (op = 2 → s.length ≤ 100000) ∧ (op = 4 → 1 ≤ n.tdiv 10000 ∧ n.tdiv 10000 ≤ 7) ∧ (op = 22 → s ≠ []) ∧ (op = 5 ∨ op = 6 → a.good = true) ∧ (op = 6 → b.good = true) ∧ (op = 7 ∨ op = 8 ∨ op = 9 → 1 ≤ k) ∧ (10 ≤ op ∧ op ≤ 21 → 2 ≤ k) ∧ k ≤ 1000000
mutual
def Nd.ok : Nd → Prop
 | .mk op n s a b kids => nodeOk op n s a b kids.length ∧ Nd.oks kids
def Nd.oks : List Nd → Prop
 | [] => True
 | x :: xs => x.ok ∧ Nd.oks xs
end
theorem Nd.oks_mem : ∀ {l : List Nd}, Nd.oks l ↔ ∀ x ∈ l, x.ok
 | [] => by simp [Nd.oks]
 | y :: l => by rw [Nd.oks, Nd.oks_mem (l := l)]; simp
end Go.A
