/- Part 5 of what TabularTiles leans on: Shelf Wz Wa CodeGa Ga CodeGb Gb CodeGc Gc CodeGd Gd CodeTg Tg Za Zu Eg CodeH Hc Hd Hf CodeJ Ja Jg CodeJl Jl CodeJm. -/
import Derived.Shelf.Strings.Builder1
import Derived.Shelf.Strings.Builder2
import Derived.Shelf.Strings.Trim
import Derived.Shelf.Small.Utf8
import Derived.Shelf.Small.Strs
import Derived.Shelf.Small.Wraps
import Derived.Shelf.Strings.BuilderF
import Derived.Shelf.Strings.BuilderK
import Derived.Shelf.Strings.BuilderRune
import Derived.Shelf.Utf8.AppendRunePlain
import Derived.Shelf.Utf8.RuneCount
import Derived.Shelf.Strings.Builder2Cap
import Derived.Shelf.Strconv.Itoa0
import Derived.Shelf.Strconv.Itoa1
import Derived.Shelf.LaysM
import Derived.Shelf.Strconv.Itoa2
import Derived.Shelf.Strconv.Itoa3
import Derived.Shelf.Strings.Search1
import Derived.Shelf.Strings.Search2
import Derived.Shelf.Strings.Search3
import Derived.Shelf.Strings.Cut
import Derived.Shelf.Strings.Count
import Derived.Shelf.Strings.Shaped
import Derived.Shelf.Strings.Prefix
import Derived.Shelf.Strings.Split
import Derived.Shelf.Strings.Replace
import Derived.Shelf.Strings.SplitShaped
import Derived.Shelf.Strings.Runes
import Derived.Shelf.Strings.RuneCount
import Derived.Shelf.Strings.AsciiSet
import Derived.Shelf.Unicode.DecodeSlow
import Derived.Shelf.Unicode.DecodeAny
import Derived.Shelf.Strings.BuilderCap
import Derived.Test.YtfnhdjigeedieaaGreatDoorProg
import Derived.Lib.ItoaMem
import Derived.KernelRfl
import Derived.Lib.MapLaws
import Derived.Lib.RuneCount
import Derived.Lib.LaidU8
import Derived.Lib.AppendIntMem
import Derived.BigCall
import Derived.BigGuard
import Derived.Test.YtfnhdjigeedieaaGreatDoorZTabularTilesd
set_option linter.defProp false
set_option linter.unusedSimpArgs false
set_option linter.unusedVariables false
set_option maxRecDepth 100000
namespace Go.Proofs
open Go.Shelf
def Tryz.lays169_ren:Go.Shelf.Ren:=⟨fun|169=>76|n=>n,fun|70=>147|9=>9|0=>0|72=>149|37=>90|127=>204|3=>3|5=>5|n=>n,fun|n=>n⟩
theorem Tryz.lays169:Go.Proofs.Lays.n169 Tryz.prog Tryz.lays169_ren := {
 mixed:=by kernel_rfl
 f169:=Tryz.func76.trans (congrArg some (by kernel_rfl))
 t0:=Tryz.underlying0
 a0:=Tryz.isAgg0
 z0:=Tryz.sizeOf0
 v0:=Tryz.zeroValue0
 t3:=Tryz.underlying3
 a3:=Tryz.isAgg3
 z3:=Tryz.sizeOf3
 v3:=Tryz.zeroValue3
 t9:=Tryz.underlying9
 a9:=Tryz.isAgg9
 z9:=Tryz.sizeOf9
 v9:=Tryz.zeroValue9
 t37:=Tryz.underlying90
 a37:=Tryz.isAgg90
 z37:=Tryz.sizeOf90
 v37:=Tryz.zeroValue90
 t70:=Tryz.underlying147
 a70:=Tryz.isAgg147
 z70:=Tryz.sizeOf147
 v70:=Tryz.zeroValue147
 t72:=Tryz.underlying149
 a72:=Tryz.isAgg149
 z72:=Tryz.sizeOf149
 v72:=Tryz.zeroValue149
 t127:=Tryz.underlying204
 a127:=Tryz.isAgg204
 z127:=Tryz.sizeOf204
 v127:=Tryz.zeroValue204 }
theorem Tryz.Builder_Extra_169:Builder.Extra Tryz.prog Tryz.lays169_ren := {
 sizeBuilder:=by kernel_rfl
 liesBuilder:=by kernel_rfl
 t5:=Tryz.underlying5
 a5:=Tryz.isAgg5
 z5:=Tryz.sizeOf5
 v5:=Tryz.zeroValue5
 infoByte:=by kernel_rfl
 cellsByte:=by kernel_rfl
 sizeByte:=by kernel_rfl
 neB5:=by decide }
def Tryz.lays162_ren:Go.Shelf.Ren:=⟨fun|162=>176|232=>166|227=>167|234=>169|236=>171|228=>202|271=>204|151=>203|120=>222|197=>119|152=>221|260=>172|137=>236|119=>237|224=>212|225=>211|217=>210|266=>230|n=>n,fun|9=>9|4=>4|3=>3|5=>5|117=>228|116=>227|0=>0|124=>231|21=>21|105=>193|46=>159|119=>246|139=>249|138=>248|n=>n,fun|3=>1|4=>2|n=>n⟩
theorem Tryz.lays162:Go.Proofs.Lays.n162 Tryz.prog Tryz.lays162_ren := {
 mixed:=by kernel_rfl
 f119:=Tryz.func237.trans (congrArg some (by kernel_rfl))
 f120:=Tryz.func222.trans (congrArg some (by kernel_rfl))
 f137:=Tryz.func236.trans (congrArg some (by kernel_rfl))
 f151:=Tryz.func203.trans (congrArg some (by kernel_rfl))
 f152:=Tryz.func221.trans (congrArg some (by kernel_rfl))
 f162:=Tryz.func176.trans (congrArg some (by kernel_rfl))
 f197:=Tryz.func119.trans (congrArg some (by kernel_rfl))
 f217:=Tryz.func210.trans (congrArg some (by kernel_rfl))
 f224:=Tryz.func212.trans (congrArg some (by kernel_rfl))
 f225:=Tryz.func211.trans (congrArg some (by kernel_rfl))
 f227:=Tryz.func167.trans (congrArg some (by kernel_rfl))
 f228:=Tryz.func202.trans (congrArg some (by kernel_rfl))
 f232:=Tryz.func166.trans (congrArg some (by kernel_rfl))
 f234:=Tryz.func169.trans (congrArg some (by kernel_rfl))
 f236:=Tryz.func171.trans (congrArg some (by kernel_rfl))
 f260:=Tryz.func172.trans (congrArg some (by kernel_rfl))
 f266:=Tryz.func230.trans (congrArg some (by kernel_rfl))
 f271:=Tryz.func204.trans (congrArg some (by kernel_rfl))
 t0:=Tryz.underlying0
 a0:=Tryz.isAgg0
 z0:=Tryz.sizeOf0
 v0:=Tryz.zeroValue0
 t3:=Tryz.underlying3
 a3:=Tryz.isAgg3
 z3:=Tryz.sizeOf3
 v3:=Tryz.zeroValue3
 t4:=Tryz.underlying4
 a4:=Tryz.isAgg4
 z4:=Tryz.sizeOf4
 v4:=Tryz.zeroValue4
 t5:=Tryz.underlying5
 a5:=Tryz.isAgg5
 z5:=Tryz.sizeOf5
 v5:=Tryz.zeroValue5
 t9:=Tryz.underlying9
 a9:=Tryz.isAgg9
 z9:=Tryz.sizeOf9
 v9:=Tryz.zeroValue9
 t21:=Tryz.underlying21
 a21:=Tryz.isAgg21
 z21:=Tryz.sizeOf21
 v21:=Tryz.zeroValue21
 t46:=Tryz.underlying159
 a46:=Tryz.isAgg159
 z46:=Tryz.sizeOf159
 v46:=Tryz.zeroValue159
 t105:=Tryz.underlying193
 a105:=Tryz.isAgg193
 z105:=Tryz.sizeOf193
 v105:=Tryz.zeroValue193
 t116:=Tryz.underlying227
 a116:=Tryz.isAgg227
 z116:=Tryz.sizeOf227
 t117:=Tryz.underlying228
 a117:=Tryz.isAgg228
 z117:=Tryz.sizeOf228
 v117:=Tryz.zeroValue228
 t119:=Tryz.underlying246
 a119:=Tryz.isAgg246
 z119:=Tryz.sizeOf246
 t124:=Tryz.underlying231
 a124:=Tryz.isAgg231
 z124:=Tryz.sizeOf231
 v124:=Tryz.zeroValue231
 t138:=Tryz.underlying248
 a138:=Tryz.isAgg248
 z138:=Tryz.sizeOf248
 v138:=Tryz.zeroValue248
 t139:=Tryz.underlying249
 a139:=Tryz.isAgg249
 z139:=Tryz.sizeOf249
 v139:=Tryz.zeroValue249
 g3:=by kernel_rfl
 g4:=by kernel_rfl }
open Go.RowKit in
theorem Tryz.strings_TrimRight_one (s:ByteArray) (c:UInt8) (hc:c.toNat<128) (w:World) (hs:s.size<=9223372036854775807) :
  Calls Tryz.prog 176 #[.string s,.string ⟨#[c]⟩] w fun e w'=>e = .returned (.string ⟨(Lib.trimRightB s.data.toList c).toArray⟩)/\w'=w:=Any.strings_TrimRight_one Tryz.lays162 s c hc w hs
def Tryz.lays160_ren:Go.Shelf.Ren:=⟨fun|160=>114|232=>166|231=>165|227=>167|234=>169|233=>168|236=>171|235=>170|228=>202|271=>204|151=>203|197=>119|120=>222|152=>221|260=>172|137=>236|119=>237|224=>212|225=>211|217=>210|266=>230|n=>n,fun|9=>9|4=>4|3=>3|5=>5|117=>228|116=>227|0=>0|124=>231|21=>21|105=>193|46=>159|119=>246|139=>249|138=>248|n=>n,fun|3=>1|4=>2|n=>n⟩
theorem Tryz.lays160:Go.Proofs.Lays.n160 Tryz.prog Tryz.lays160_ren := {
 mixed:=by kernel_rfl
 f119:=Tryz.func237.trans (congrArg some (by kernel_rfl))
 f120:=Tryz.func222.trans (congrArg some (by kernel_rfl))
 f137:=Tryz.func236.trans (congrArg some (by kernel_rfl))
 f151:=Tryz.func203.trans (congrArg some (by kernel_rfl))
 f152:=Tryz.func221.trans (congrArg some (by kernel_rfl))
 f160:=Tryz.func114.trans (congrArg some (by kernel_rfl))
 f197:=Tryz.func119.trans (congrArg some (by kernel_rfl))
 f217:=Tryz.func210.trans (congrArg some (by kernel_rfl))
 f224:=Tryz.func212.trans (congrArg some (by kernel_rfl))
 f225:=Tryz.func211.trans (congrArg some (by kernel_rfl))
 f227:=Tryz.func167.trans (congrArg some (by kernel_rfl))
 f228:=Tryz.func202.trans (congrArg some (by kernel_rfl))
 f231:=Tryz.func165.trans (congrArg some (by kernel_rfl))
 f232:=Tryz.func166.trans (congrArg some (by kernel_rfl))
 f233:=Tryz.func168.trans (congrArg some (by kernel_rfl))
 f234:=Tryz.func169.trans (congrArg some (by kernel_rfl))
 f235:=Tryz.func170.trans (congrArg some (by kernel_rfl))
 f236:=Tryz.func171.trans (congrArg some (by kernel_rfl))
 f260:=Tryz.func172.trans (congrArg some (by kernel_rfl))
 f266:=Tryz.func230.trans (congrArg some (by kernel_rfl))
 f271:=Tryz.func204.trans (congrArg some (by kernel_rfl))
 t0:=Tryz.underlying0
 a0:=Tryz.isAgg0
 z0:=Tryz.sizeOf0
 v0:=Tryz.zeroValue0
 t3:=Tryz.underlying3
 a3:=Tryz.isAgg3
 z3:=Tryz.sizeOf3
 v3:=Tryz.zeroValue3
 t4:=Tryz.underlying4
 a4:=Tryz.isAgg4
 z4:=Tryz.sizeOf4
 v4:=Tryz.zeroValue4
 t5:=Tryz.underlying5
 a5:=Tryz.isAgg5
 z5:=Tryz.sizeOf5
 v5:=Tryz.zeroValue5
 t9:=Tryz.underlying9
 a9:=Tryz.isAgg9
 z9:=Tryz.sizeOf9
 v9:=Tryz.zeroValue9
 t21:=Tryz.underlying21
 a21:=Tryz.isAgg21
 z21:=Tryz.sizeOf21
 v21:=Tryz.zeroValue21
 t46:=Tryz.underlying159
 a46:=Tryz.isAgg159
 z46:=Tryz.sizeOf159
 v46:=Tryz.zeroValue159
 t105:=Tryz.underlying193
 a105:=Tryz.isAgg193
 z105:=Tryz.sizeOf193
 v105:=Tryz.zeroValue193
 t116:=Tryz.underlying227
 a116:=Tryz.isAgg227
 z116:=Tryz.sizeOf227
 t117:=Tryz.underlying228
 a117:=Tryz.isAgg228
 z117:=Tryz.sizeOf228
 v117:=Tryz.zeroValue228
 t119:=Tryz.underlying246
 a119:=Tryz.isAgg246
 z119:=Tryz.sizeOf246
 t124:=Tryz.underlying231
 a124:=Tryz.isAgg231
 z124:=Tryz.sizeOf231
 v124:=Tryz.zeroValue231
 t138:=Tryz.underlying248
 a138:=Tryz.isAgg248
 z138:=Tryz.sizeOf248
 v138:=Tryz.zeroValue248
 t139:=Tryz.underlying249
 a139:=Tryz.isAgg249
 z139:=Tryz.sizeOf249
 v139:=Tryz.zeroValue249
 g3:=by kernel_rfl
 g4:=by kernel_rfl }
open Go.RowKit in
theorem Tryz.strings_Trim_one (s:ByteArray) (c:UInt8) (hc:c.toNat<128) (w:World) (hs:s.size<=9223372036854775807) :
  Calls Tryz.prog 114 #[.string s,.string ⟨#[c]⟩] w fun e w'=>e = .returned (.string ⟨(Lib.trimB s.data.toList c).toArray⟩)/\(w'=w\/w'=w.drew):=Any.strings_Trim_one Tryz.lays160 s c hc w hs
def Tryz.lays118_ren:Go.Shelf.Ren:=⟨fun|118=>196|n=>n,fun|21=>21|3=>3|4=>4|n=>n,fun|n=>n⟩
theorem Tryz.lays118:Go.Proofs.Lays.n118 Tryz.prog Tryz.lays118_ren := {
 mixed:=by kernel_rfl
 f118:=Tryz.func196.trans (congrArg some (by kernel_rfl))
 t3:=Tryz.underlying3
 a3:=Tryz.isAgg3
 z3:=Tryz.sizeOf3
 v3:=Tryz.zeroValue3
 t4:=Tryz.underlying4
 a4:=Tryz.isAgg4
 z4:=Tryz.sizeOf4
 v4:=Tryz.zeroValue4
 t21:=Tryz.underlying21
 a21:=Tryz.isAgg21
 z21:=Tryz.sizeOf21
 v21:=Tryz.zeroValue21 }
theorem Tryz.utf8_RuneLen (r:Int) (w:World) :
  Calls Tryz.prog 196 #[.int .i32 r] w fun e w'=>e = .returned (.int .i64 (Lib.runeLen r))/\w'=w:=Any.utf8_RuneLen Tryz.lays118 r w
def Tryz.lays103_ren:Go.Shelf.Ren:=⟨fun|103=>67|210=>113|206=>164|n=>n,fun|9=>9|4=>4|24=>118|3=>3|n=>n,fun|n=>n⟩
theorem Tryz.lays103:Go.Proofs.Lays.n103 Tryz.prog Tryz.lays103_ren := {
 mixed:=by kernel_rfl
 f103:=Tryz.func67.trans (congrArg some (by kernel_rfl))
 f206:=Tryz.func164.trans (congrArg some (by kernel_rfl))
 f210:=Tryz.func113.trans (congrArg some (by kernel_rfl))
 t3:=Tryz.underlying3
 a3:=Tryz.isAgg3
 z3:=Tryz.sizeOf3
 v3:=Tryz.zeroValue3
 t4:=Tryz.underlying4
 a4:=Tryz.isAgg4
 z4:=Tryz.sizeOf4
 v4:=Tryz.zeroValue4
 t9:=Tryz.underlying9
 a9:=Tryz.isAgg9
 z9:=Tryz.sizeOf9
 v9:=Tryz.zeroValue9
 t24:=Tryz.underlying118
 a24:=Tryz.isAgg118
 z24:=Tryz.sizeOf118
 v24:=Tryz.zeroValue118 }
open Go.RowKit in
theorem Tryz.strings_CutPrefix (s p:ByteArray) (w:World) :
  Calls Tryz.prog 67 #[.string s,.string p] w fun e w'=>e = .returned (.tuple #[.string ⟨(Lib.trimPrefix s.data.toList p.data.toList).toArray⟩,.bool (Lib.hasPrefix s.data.toList p.data.toList)])/\w'=w:=Any.strings_CutPrefix Tryz.lays103 s p w
def Tryz.lays195_ren:Go.Shelf.Ren:=⟨fun|195=>159|n=>n,fun|9=>9|3=>3|0=>0|4=>4|n=>n,fun|n=>n⟩
theorem Tryz.lays195:Go.Proofs.Lays.n195 Tryz.prog Tryz.lays195_ren := {
 mixed:=by kernel_rfl
 f195:=Tryz.func159.trans (congrArg some (by kernel_rfl))
 t0:=Tryz.underlying0
 a0:=Tryz.isAgg0
 z0:=Tryz.sizeOf0
 v0:=Tryz.zeroValue0
 t3:=Tryz.underlying3
 a3:=Tryz.isAgg3
 z3:=Tryz.sizeOf3
 v3:=Tryz.zeroValue3
 t4:=Tryz.underlying4
 a4:=Tryz.isAgg4
 z4:=Tryz.sizeOf4
 v4:=Tryz.zeroValue4
 t9:=Tryz.underlying9
 a9:=Tryz.isAgg9
 z9:=Tryz.sizeOf9
 v9:=Tryz.zeroValue9 }
open Go.RowKit in
theorem Tryz.utf8_RuneCountInString (s:ByteArray) (w:World) (hs:s.size<9223372036854775807) :
  Calls Tryz.prog 159 #[.string s] w fun e w'=>e = .returned (.int .i64 (Lib.runeCount s))/\∃ pos,w'=w.iter s pos:=Any.utf8_RuneCountInString Tryz.lays195 s w hs
def Tryz.lays283_ren:Go.Shelf.Ren:=⟨fun|283=>223|n=>n,fun|3=>3|9=>9|4=>4|n=>n,fun|n=>n⟩
theorem Tryz.lays283:Go.Proofs.Lays.n283 Tryz.prog Tryz.lays283_ren := {
 mixed:=by kernel_rfl
 f283:=Tryz.func223.trans (congrArg some (by kernel_rfl))
 t3:=Tryz.underlying3
 a3:=Tryz.isAgg3
 z3:=Tryz.sizeOf3
 v3:=Tryz.zeroValue3
 t4:=Tryz.underlying4
 a4:=Tryz.isAgg4
 z4:=Tryz.sizeOf4
 v4:=Tryz.zeroValue4
 t9:=Tryz.underlying9
 a9:=Tryz.isAgg9
 z9:=Tryz.sizeOf9
 v9:=Tryz.zeroValue9 }
open Go.Lib in
theorem Tryz.internal_strconv_small (i:Nat) (h:i<100) (w:World) :
  Calls Tryz.prog 223 #[.int .i64 i] w fun e w'=>e = .returned (.string ⟨(Lib.decDigits i).toArray⟩)/\w'=w:=Any.internal_strconv_small Tryz.lays283 i h w
def Tryz.laysM284_ren:Go.Shelf.Ren:=⟨fun|284=>224|129=>239|317=>238|318=>240|n=>n,fun|53=>94|3=>3|212=>273|0=>0|4=>4|46=>159|5=>5|9=>9|n=>n,fun|17=>5|n=>n⟩
theorem Tryz.laysM284:Go.Proofs.LaysM.n284 Tryz.prog Tryz.laysM284_ren := {
 mixed:=by kernel_rfl
 f129:=Tryz.func239.trans (congrArg some (by kernel_rfl))
 f284:=Tryz.func224.trans (congrArg some (by kernel_rfl))
 f317:=Tryz.func238.trans (congrArg some (by kernel_rfl))
 f318:=Tryz.func240.trans (congrArg some (by kernel_rfl))
 t0:=Tryz.underlying0
 a0:=Tryz.isAgg0
 z0:=Tryz.sizeOf0
 v0:=Tryz.zeroValue0
 t3:=Tryz.underlying3
 a3:=Tryz.isAgg3
 z3:=Tryz.sizeOf3
 v3:=Tryz.zeroValue3
 t4:=Tryz.underlying4
 a4:=Tryz.isAgg4
 z4:=Tryz.sizeOf4
 v4:=Tryz.zeroValue4
 t5:=Tryz.underlying5
 a5:=Tryz.isAgg5
 z5:=Tryz.sizeOf5
 v5:=Tryz.zeroValue5
 t9:=Tryz.underlying9
 a9:=Tryz.isAgg9
 z9:=Tryz.sizeOf9
 v9:=Tryz.zeroValue9
 t46:=Tryz.underlying159
 a46:=Tryz.isAgg159
 z46:=Tryz.sizeOf159
 v46:=Tryz.zeroValue159
 t53:=Tryz.underlying94
 a53:=Tryz.isAgg94
 z53:=Tryz.sizeOf94
 v53:=Tryz.zeroValue94
 t212:=Tryz.underlying273
 a212:=Tryz.isAgg273
 z212:=Tryz.sizeOf273
 v212:=Tryz.zeroValue273
 g17:=by kernel_rfl
 i0:=by kernel_rfl
 i3:=by kernel_rfl
 i4:=by kernel_rfl
 i5:=by kernel_rfl
 i9:=by kernel_rfl
 i46:=by kernel_rfl
 i53:=by kernel_rfl
 i212:=by kernel_rfl
 m17:=by kernel_rfl }
open Go.Lib in
theorem Tryz.internal_strconv_numDigits (u : Nat) (h1 : 1 ≤ u) (h2 : u < 18446744073709551616) (w : World) (htab : Lib.TabIs Tryz.prog w "internal/strconv.uint64pow10" .u64 Lib.pow10Tab) :
  Calls Tryz.prog 224 #[.int .u64 u] w fun e w'=>e = .returned (.int .i64 (Lib.nDigits u))/\w'=w:=Any.internal_strconv_numDigits Tryz.laysM284 u h1 h2 w htab
def Tryz.lays285_ren:Go.Shelf.Ren:=⟨fun|285=>225|n=>n,fun|37=>90|53=>94|3=>3|4=>4|51=>174|9=>9|5=>5|0=>0|n=>n,fun|n=>n⟩
theorem Tryz.lays285:Go.Proofs.Lays.n285 Tryz.prog Tryz.lays285_ren := {
 mixed:=by kernel_rfl
 f285:=Tryz.func225.trans (congrArg some (by kernel_rfl))
 t0:=Tryz.underlying0
 a0:=Tryz.isAgg0
 z0:=Tryz.sizeOf0
 v0:=Tryz.zeroValue0
 t3:=Tryz.underlying3
 a3:=Tryz.isAgg3
 z3:=Tryz.sizeOf3
 v3:=Tryz.zeroValue3
 t4:=Tryz.underlying4
 a4:=Tryz.isAgg4
 z4:=Tryz.sizeOf4
 v4:=Tryz.zeroValue4
 t5:=Tryz.underlying5
 a5:=Tryz.isAgg5
 z5:=Tryz.sizeOf5
 v5:=Tryz.zeroValue5
 t9:=Tryz.underlying9
 a9:=Tryz.isAgg9
 z9:=Tryz.sizeOf9
 v9:=Tryz.zeroValue9
 t37:=Tryz.underlying90
 a37:=Tryz.isAgg90
 z37:=Tryz.sizeOf90
 v37:=Tryz.zeroValue90
 t51:=Tryz.underlying174
 a51:=Tryz.isAgg174
 z51:=Tryz.sizeOf174
 v51:=Tryz.zeroValue174
 t53:=Tryz.underlying94
 a53:=Tryz.isAgg94
 z53:=Tryz.sizeOf94
 v53:=Tryz.zeroValue94 }
open Go.RowKit Go.Sort Go.Lib in
theorem Tryz.internal_strconv_formatBase10 (blk off cap:Nat) (u:Nat) (d:Array UInt8) (w:World) (hH:Holds (fun (b:UInt8)=>Value.int .u8 (b.toNat:Int)) w blk off d) (hu:u<10 ^ d.size) (hu64:u<18446744073709551616) (hsz:d.size<4611686018427387904) :
  Calls Tryz.prog 225 #[.slice (some ⟨blk,off,none⟩) d.size cap,.int .u64 u] w fun e w'=>
   e = .returned (.tuple #[])/\∃ (n v':Nat) (dk:Array UInt8),w'=(putRow (fun (b:UInt8)=>Value.int .u8 (b.toNat:Int)) w blk off dk).drewN n/\FmtInv d.size u 0 v' dk:=Any.internal_strconv_formatBase10 Tryz.lays285 blk off cap u d w hH hu hu64 hsz
def Tryz.laysM171_ren:Go.Shelf.Ren:=⟨fun|171=>181|243=>208|246=>229|283=>223|284=>224|285=>225|286=>226|129=>239|317=>238|318=>240|319=>241|320=>242|337=>248|338=>249|n=>n,fun|3=>3|9=>9|2=>2|4=>4|171=>259|0=>0|53=>94|37=>90|5=>5|173=>262|212=>273|51=>174|20=>20|213=>274|46=>159|232=>281|233=>282|n=>n,fun|17=>5|18=>6|19=>7|n=>n⟩
theorem Tryz.laysM171:Go.Proofs.LaysM.n171 Tryz.prog Tryz.laysM171_ren := {
 mixed:=by kernel_rfl
 f129:=Tryz.func239.trans (congrArg some (by kernel_rfl))
 f171:=Tryz.func181.trans (congrArg some (by kernel_rfl))
 f243:=Tryz.func208.trans (congrArg some (by kernel_rfl))
 f246:=Tryz.func229.trans (congrArg some (by kernel_rfl))
 f283:=Tryz.func223.trans (congrArg some (by kernel_rfl))
 f284:=Tryz.func224.trans (congrArg some (by kernel_rfl))
 f285:=Tryz.func225.trans (congrArg some (by kernel_rfl))
 f286:=Tryz.func226.trans (congrArg some (by kernel_rfl))
 f317:=Tryz.func238.trans (congrArg some (by kernel_rfl))
 f318:=Tryz.func240.trans (congrArg some (by kernel_rfl))
 f319:=Tryz.func241.trans (congrArg some (by kernel_rfl))
 f320:=Tryz.func242.trans (congrArg some (by kernel_rfl))
 f337:=Tryz.func248.trans (congrArg some (by kernel_rfl))
 f338:=Tryz.func249.trans (congrArg some (by kernel_rfl))
 t0:=Tryz.underlying0
 a0:=Tryz.isAgg0
 z0:=Tryz.sizeOf0
 v0:=Tryz.zeroValue0
 t2:=Tryz.underlying2
 a2:=Tryz.isAgg2
 z2:=Tryz.sizeOf2
 v2:=Tryz.zeroValue2
 t3:=Tryz.underlying3
 a3:=Tryz.isAgg3
 z3:=Tryz.sizeOf3
 v3:=Tryz.zeroValue3
 t4:=Tryz.underlying4
 a4:=Tryz.isAgg4
 z4:=Tryz.sizeOf4
 v4:=Tryz.zeroValue4
 t5:=Tryz.underlying5
 a5:=Tryz.isAgg5
 z5:=Tryz.sizeOf5
 v5:=Tryz.zeroValue5
 t9:=Tryz.underlying9
 a9:=Tryz.isAgg9
 z9:=Tryz.sizeOf9
 v9:=Tryz.zeroValue9
 t20:=Tryz.underlying20
 a20:=Tryz.isAgg20
 z20:=Tryz.sizeOf20
 v20:=Tryz.zeroValue20
 t37:=Tryz.underlying90
 a37:=Tryz.isAgg90
 z37:=Tryz.sizeOf90
 v37:=Tryz.zeroValue90
 t46:=Tryz.underlying159
 a46:=Tryz.isAgg159
 z46:=Tryz.sizeOf159
 v46:=Tryz.zeroValue159
 t51:=Tryz.underlying174
 a51:=Tryz.isAgg174
 z51:=Tryz.sizeOf174
 v51:=Tryz.zeroValue174
 t53:=Tryz.underlying94
 a53:=Tryz.isAgg94
 z53:=Tryz.sizeOf94
 v53:=Tryz.zeroValue94
 t171:=Tryz.underlying259
 a171:=Tryz.isAgg259
 z171:=Tryz.sizeOf259
 v171:=Tryz.zeroValue259
 t173:=Tryz.underlying262
 a173:=Tryz.isAgg262
 z173:=Tryz.sizeOf262
 v173:=Tryz.zeroValue262
 t212:=Tryz.underlying273
 a212:=Tryz.isAgg273
 z212:=Tryz.sizeOf273
 v212:=Tryz.zeroValue273
 t213:=Tryz.underlying274
 a213:=Tryz.isAgg274
 z213:=Tryz.sizeOf274
 t232:=Tryz.underlying281
 a232:=Tryz.isAgg281
 z232:=Tryz.sizeOf281
 v232:=Tryz.zeroValue281
 t233:=Tryz.underlying282
 a233:=Tryz.isAgg282
 z233:=Tryz.sizeOf282
 v233:=Tryz.zeroValue282
 g17:=by kernel_rfl
 g18:=by kernel_rfl
 g19:=by kernel_rfl
 i0:=by kernel_rfl
 i2:=by kernel_rfl
 i3:=by kernel_rfl
 i4:=by kernel_rfl
 i5:=by kernel_rfl
 i9:=by kernel_rfl
 i20:=by kernel_rfl
 i37:=by kernel_rfl
 i46:=by kernel_rfl
 i51:=by kernel_rfl
 i53:=by kernel_rfl
 i171:=by kernel_rfl
 i173:=by kernel_rfl
 i212:=by kernel_rfl
 i232:=by kernel_rfl
 i233:=by kernel_rfl
 m17:=by kernel_rfl
 m18:=by kernel_rfl
 m19:=by kernel_rfl }
open Go.RowKit Go.Sort Go.Lib in
theorem Tryz.strconv_Itoa (n : Int) (h0 : -9223372036854775808 ≤ n) (h1 : n ≤ 9223372036854775807) (w : World) (htab : Lib.TabIs Tryz.prog w "internal/strconv.uint64pow10" .u64 Lib.pow10Tab) :
  Calls Tryz.prog 181 #[.int .i64 n] w fun e w'=>e = .returned (.string ⟨(Lib.itoa n).toArray⟩)/\∃ k os,w'=grow (w.drewN k) os:=Any.strconv_Itoa Tryz.laysM171 n h0 h1 w htab
def Tryz.lays219_ren:Go.Shelf.Ren:=⟨fun|219=>190|217=>210|225=>211|224=>212|267=>213|266=>230|314=>231|n=>n,fun|9=>9|3=>3|4=>4|5=>5|46=>159|146=>265|51=>174|n=>n,fun|1=>4|n=>n⟩
theorem Tryz.lays219:Go.Proofs.Lays.n219 Tryz.prog Tryz.lays219_ren := {
 mixed:=by kernel_rfl
 f217:=Tryz.func210.trans (congrArg some (by kernel_rfl))
 f219:=Tryz.func190.trans (congrArg some (by kernel_rfl))
 f224:=Tryz.func212.trans (congrArg some (by kernel_rfl))
 f225:=Tryz.func211.trans (congrArg some (by kernel_rfl))
 f266:=Tryz.func230.trans (congrArg some (by kernel_rfl))
 f267:=Tryz.func213.trans (congrArg some (by kernel_rfl))
 f314:=Tryz.func231.trans (congrArg some (by kernel_rfl))
 t3:=Tryz.underlying3
 a3:=Tryz.isAgg3
 z3:=Tryz.sizeOf3
 v3:=Tryz.zeroValue3
 t4:=Tryz.underlying4
 a4:=Tryz.isAgg4
 z4:=Tryz.sizeOf4
 v4:=Tryz.zeroValue4
 t5:=Tryz.underlying5
 a5:=Tryz.isAgg5
 z5:=Tryz.sizeOf5
 v5:=Tryz.zeroValue5
 t9:=Tryz.underlying9
 a9:=Tryz.isAgg9
 z9:=Tryz.sizeOf9
 v9:=Tryz.zeroValue9
 t46:=Tryz.underlying159
 a46:=Tryz.isAgg159
 z46:=Tryz.sizeOf159
 v46:=Tryz.zeroValue159
 t51:=Tryz.underlying174
 a51:=Tryz.isAgg174
 z51:=Tryz.sizeOf174
 v51:=Tryz.zeroValue174
 t146:=Tryz.underlying265
 a146:=Tryz.isAgg265
 z146:=Tryz.sizeOf265
 v146:=Tryz.zeroValue265
 g1:=by kernel_rfl }
open Go.RowKit Go.Lib in
theorem Tryz.stringslite_Index_one (s:ByteArray) (c:UInt8) (w:World) :
  Calls Tryz.prog 190 #[.string s,.string ⟨#[c]⟩] w fun e w'=>e = .returned (.int .i64 (Lib.indexByte s.data.toList c))/\w'=w:=Any.stringslite_Index_one Tryz.lays219 s c w
def Tryz.lays144_ren:Go.Shelf.Ren:=⟨fun|144=>199|143=>217|219=>190|217=>210|225=>211|224=>212|267=>213|266=>230|314=>231|n=>n,fun|9=>9|4=>4|3=>3|5=>5|46=>159|146=>265|51=>174|n=>n,fun|1=>4|n=>n⟩
theorem Tryz.lays144:Go.Proofs.Lays.n144 Tryz.prog Tryz.lays144_ren := {
 mixed:=by kernel_rfl
 f143:=Tryz.func217.trans (congrArg some (by kernel_rfl))
 f144:=Tryz.func199.trans (congrArg some (by kernel_rfl))
 f217:=Tryz.func210.trans (congrArg some (by kernel_rfl))
 f219:=Tryz.func190.trans (congrArg some (by kernel_rfl))
 f224:=Tryz.func212.trans (congrArg some (by kernel_rfl))
 f225:=Tryz.func211.trans (congrArg some (by kernel_rfl))
 f266:=Tryz.func230.trans (congrArg some (by kernel_rfl))
 f267:=Tryz.func213.trans (congrArg some (by kernel_rfl))
 f314:=Tryz.func231.trans (congrArg some (by kernel_rfl))
 t3:=Tryz.underlying3
 a3:=Tryz.isAgg3
 z3:=Tryz.sizeOf3
 v3:=Tryz.zeroValue3
 t4:=Tryz.underlying4
 a4:=Tryz.isAgg4
 z4:=Tryz.sizeOf4
 v4:=Tryz.zeroValue4
 t5:=Tryz.underlying5
 a5:=Tryz.isAgg5
 z5:=Tryz.sizeOf5
 v5:=Tryz.zeroValue5
 t9:=Tryz.underlying9
 a9:=Tryz.isAgg9
 z9:=Tryz.sizeOf9
 v9:=Tryz.zeroValue9
 t46:=Tryz.underlying159
 a46:=Tryz.isAgg159
 z46:=Tryz.sizeOf159
 v46:=Tryz.zeroValue159
 t51:=Tryz.underlying174
 a51:=Tryz.isAgg174
 z51:=Tryz.sizeOf174
 v51:=Tryz.zeroValue174
 t146:=Tryz.underlying265
 a146:=Tryz.isAgg265
 z146:=Tryz.sizeOf265
 v146:=Tryz.zeroValue265
 g1:=by kernel_rfl }
open Go.RowKit Go.Lib in
theorem Tryz.strings_Contains_one (s:ByteArray) (c:UInt8) (w:World) :
  Calls Tryz.prog 199 #[.string s,.string ⟨#[c]⟩] w fun e w'=>e = .returned (.bool (decide (0<=Lib.indexByte s.data.toList c)))/\w'=w:=Any.strings_Contains_one Tryz.lays144 s c w
def Tryz.lays99_ren:Go.Shelf.Ren:=⟨fun|99=>198|206=>164|n=>n,fun|9=>9|4=>4|3=>3|n=>n,fun|n=>n⟩
theorem Tryz.lays99:Go.Proofs.Lays.n99 Tryz.prog Tryz.lays99_ren := {
 mixed:=by kernel_rfl
 f99:=Tryz.func198.trans (congrArg some (by kernel_rfl))
 f206:=Tryz.func164.trans (congrArg some (by kernel_rfl))
 t3:=Tryz.underlying3
 a3:=Tryz.isAgg3
 z3:=Tryz.sizeOf3
 v3:=Tryz.zeroValue3
 t4:=Tryz.underlying4
 a4:=Tryz.isAgg4
 z4:=Tryz.sizeOf4
 v4:=Tryz.zeroValue4
 t9:=Tryz.underlying9
 a9:=Tryz.isAgg9
 z9:=Tryz.sizeOf9
 v9:=Tryz.zeroValue9 }
open Go.RowKit Go.Lib in
theorem Tryz.strings_HasPrefix (s p:ByteArray) (w:World) :
  Calls Tryz.prog 198 #[.string s,.string p] w fun e w'=>e = .returned (.bool (Lib.hasPrefix s.data.toList p.data.toList))/\w'=w:=Any.strings_HasPrefix Tryz.lays99 s p w
def Tryz.lays155_ren:Go.Shelf.Ren:=⟨fun|155=>177|154=>207|138=>227|165=>228|143=>217|166=>120|197=>119|169=>76|195=>159|218=>243|240=>173|241=>244|219=>190|260=>172|276=>205|277=>250|217=>210|225=>211|224=>212|267=>213|266=>230|314=>231|n=>n,fun|9=>9|3=>3|4=>4|72=>149|0=>0|76=>197|105=>193|21=>21|5=>5|70=>147|20=>20|37=>90|75=>196|127=>204|164=>250|46=>159|119=>246|139=>249|138=>248|146=>265|51=>174|80=>37|n=>n,fun|1=>4|3=>1|4=>2|n=>n⟩
theorem Tryz.lays155:Go.Proofs.Lays.n155 Tryz.prog Tryz.lays155_ren := {
 mixed:=by kernel_rfl
 f138:=Tryz.func227.trans (congrArg some (by kernel_rfl))
 f143:=Tryz.func217.trans (congrArg some (by kernel_rfl))
 f154:=Tryz.func207.trans (congrArg some (by kernel_rfl))
 f155:=Tryz.func177.trans (congrArg some (by kernel_rfl))
 f165:=Tryz.func228.trans (congrArg some (by kernel_rfl))
 f166:=Tryz.func120.trans (congrArg some (by kernel_rfl))
 f169:=Tryz.func76.trans (congrArg some (by kernel_rfl))
 f195:=Tryz.func159.trans (congrArg some (by kernel_rfl))
 f197:=Tryz.func119.trans (congrArg some (by kernel_rfl))
 f217:=Tryz.func210.trans (congrArg some (by kernel_rfl))
 f218:=Tryz.func243.trans (congrArg some (by kernel_rfl))
 f219:=Tryz.func190.trans (congrArg some (by kernel_rfl))
 f224:=Tryz.func212.trans (congrArg some (by kernel_rfl))
 f225:=Tryz.func211.trans (congrArg some (by kernel_rfl))
 f240:=Tryz.func173.trans (congrArg some (by kernel_rfl))
 f241:=Tryz.func244.trans (congrArg some (by kernel_rfl))
 f260:=Tryz.func172.trans (congrArg some (by kernel_rfl))
 f266:=Tryz.func230.trans (congrArg some (by kernel_rfl))
 f267:=Tryz.func213.trans (congrArg some (by kernel_rfl))
 f276:=Tryz.func205.trans (congrArg some (by kernel_rfl))
 f277:=Tryz.func250.trans (congrArg some (by kernel_rfl))
 f314:=Tryz.func231.trans (congrArg some (by kernel_rfl))
 t0:=Tryz.underlying0
 a0:=Tryz.isAgg0
 z0:=Tryz.sizeOf0
 v0:=Tryz.zeroValue0
 t3:=Tryz.underlying3
 a3:=Tryz.isAgg3
 z3:=Tryz.sizeOf3
 v3:=Tryz.zeroValue3
 t4:=Tryz.underlying4
 a4:=Tryz.isAgg4
 z4:=Tryz.sizeOf4
 v4:=Tryz.zeroValue4
 t5:=Tryz.underlying5
 a5:=Tryz.isAgg5
 z5:=Tryz.sizeOf5
 v5:=Tryz.zeroValue5
 t9:=Tryz.underlying9
 a9:=Tryz.isAgg9
 z9:=Tryz.sizeOf9
 v9:=Tryz.zeroValue9
 t20:=Tryz.underlying20
 a20:=Tryz.isAgg20
 z20:=Tryz.sizeOf20
 v20:=Tryz.zeroValue20
 t21:=Tryz.underlying21
 a21:=Tryz.isAgg21
 z21:=Tryz.sizeOf21
 v21:=Tryz.zeroValue21
 t37:=Tryz.underlying90
 a37:=Tryz.isAgg90
 z37:=Tryz.sizeOf90
 v37:=Tryz.zeroValue90
 t46:=Tryz.underlying159
 a46:=Tryz.isAgg159
 z46:=Tryz.sizeOf159
 v46:=Tryz.zeroValue159
 t51:=Tryz.underlying174
 a51:=Tryz.isAgg174
 z51:=Tryz.sizeOf174
 v51:=Tryz.zeroValue174
 t70:=Tryz.underlying147
 a70:=Tryz.isAgg147
 z70:=Tryz.sizeOf147
 v70:=Tryz.zeroValue147
 t72:=Tryz.underlying149
 a72:=Tryz.isAgg149
 z72:=Tryz.sizeOf149
 v72:=Tryz.zeroValue149
 t75:=Tryz.underlying196
 a75:=Tryz.isAgg196
 z75:=Tryz.sizeOf196
 v75:=Tryz.zeroValue196
 t76:=Tryz.underlying197
 a76:=Tryz.isAgg197
 z76:=Tryz.sizeOf197
 v76:=Tryz.zeroValue197
 t105:=Tryz.underlying193
 a105:=Tryz.isAgg193
 z105:=Tryz.sizeOf193
 v105:=Tryz.zeroValue193
 t119:=Tryz.underlying246
 a119:=Tryz.isAgg246
 z119:=Tryz.sizeOf246
 t127:=Tryz.underlying204
 a127:=Tryz.isAgg204
 z127:=Tryz.sizeOf204
 v127:=Tryz.zeroValue204
 t138:=Tryz.underlying248
 a138:=Tryz.isAgg248
 z138:=Tryz.sizeOf248
 v138:=Tryz.zeroValue248
 t139:=Tryz.underlying249
 a139:=Tryz.isAgg249
 z139:=Tryz.sizeOf249
 v139:=Tryz.zeroValue249
 t146:=Tryz.underlying265
 a146:=Tryz.isAgg265
 z146:=Tryz.sizeOf265
 v146:=Tryz.zeroValue265
 t164:=Tryz.underlying250
 a164:=Tryz.isAgg250
 z164:=Tryz.sizeOf250
 v164:=Tryz.zeroValue250
 g1:=by kernel_rfl
 g3:=by kernel_rfl
 g4:=by kernel_rfl }
theorem Tryz.Builder_Extra_155:Builder.Extra Tryz.prog Tryz.lays155_ren := {
 sizeBuilder:=by kernel_rfl
 liesBuilder:=by kernel_rfl
 t5:=Tryz.underlying5
 a5:=Tryz.isAgg5
 z5:=Tryz.sizeOf5
 v5:=Tryz.zeroValue5
 infoByte:=by kernel_rfl
 cellsByte:=by kernel_rfl
 sizeByte:=by kernel_rfl
 neB5:=by decide }
open Go.RowKit Go.Lib in
theorem Tryz.strings_ReplaceAll (s old new:ByteArray) (m:Int) (w:World) (hs:s.size<4294967281) (hm:w.cell? ⟨4,0,none⟩=some (.int .i64 m)) (h1:1<=old.size) (hlen:s.size+Lib.countB s old*new.size<=140737488355328) :
  Calls Tryz.prog 177 #[.string s,.string old,.string new] w fun e w'=>
   e = .returned (.string ⟨(Lib.replaceAll s.data.toList old.data.toList new.data.toList).toArray⟩)/\Below w.heap.size w w':=Any.strings_ReplaceAll Tryz.lays155 Tryz.Builder_Extra_155 s old new m w hs hm h1 hlen
def Tryz.lays260_ren:Go.Shelf.Ren:=⟨fun|260=>172|n=>n,fun|9=>9|21=>21|3=>3|4=>4|5=>5|119=>246|0=>0|46=>159|139=>249|138=>248|n=>n,fun|3=>1|4=>2|n=>n⟩
theorem Tryz.lays260:Go.Proofs.Lays.n260 Tryz.prog Tryz.lays260_ren := {
 mixed:=by kernel_rfl
 f260:=Tryz.func172.trans (congrArg some (by kernel_rfl))
 t0:=Tryz.underlying0
 a0:=Tryz.isAgg0
 z0:=Tryz.sizeOf0
 v0:=Tryz.zeroValue0
 t3:=Tryz.underlying3
 a3:=Tryz.isAgg3
 z3:=Tryz.sizeOf3
 v3:=Tryz.zeroValue3
 t4:=Tryz.underlying4
 a4:=Tryz.isAgg4
 z4:=Tryz.sizeOf4
 v4:=Tryz.zeroValue4
 t5:=Tryz.underlying5
 a5:=Tryz.isAgg5
 z5:=Tryz.sizeOf5
 v5:=Tryz.zeroValue5
 t9:=Tryz.underlying9
 a9:=Tryz.isAgg9
 z9:=Tryz.sizeOf9
 v9:=Tryz.zeroValue9
 t21:=Tryz.underlying21
 a21:=Tryz.isAgg21
 z21:=Tryz.sizeOf21
 v21:=Tryz.zeroValue21
 t46:=Tryz.underlying159
 a46:=Tryz.isAgg159
 z46:=Tryz.sizeOf159
 v46:=Tryz.zeroValue159
 t119:=Tryz.underlying246
 a119:=Tryz.isAgg246
 z119:=Tryz.sizeOf246
 t138:=Tryz.underlying248
 a138:=Tryz.isAgg248
 z138:=Tryz.sizeOf248
 v138:=Tryz.zeroValue248
 t139:=Tryz.underlying249
 a139:=Tryz.isAgg249
 z139:=Tryz.sizeOf249
 v139:=Tryz.zeroValue249
 g3:=by kernel_rfl
 g4:=by kernel_rfl }
def Tryz.lays197_ren:Go.Shelf.Ren:=⟨fun|197=>119|260=>172|n=>n,fun|9=>9|21=>21|3=>3|4=>4|5=>5|105=>193|119=>246|0=>0|46=>159|139=>249|138=>248|n=>n,fun|3=>1|4=>2|n=>n⟩
theorem Tryz.lays197:Go.Proofs.Lays.n197 Tryz.prog Tryz.lays197_ren := {
 mixed:=by kernel_rfl
 f197:=Tryz.func119.trans (congrArg some (by kernel_rfl))
 f260:=Tryz.func172.trans (congrArg some (by kernel_rfl))
 t0:=Tryz.underlying0
 a0:=Tryz.isAgg0
 z0:=Tryz.sizeOf0
 v0:=Tryz.zeroValue0
 t3:=Tryz.underlying3
 a3:=Tryz.isAgg3
 z3:=Tryz.sizeOf3
 v3:=Tryz.zeroValue3
 t4:=Tryz.underlying4
 a4:=Tryz.isAgg4
 z4:=Tryz.sizeOf4
 v4:=Tryz.zeroValue4
 t5:=Tryz.underlying5
 a5:=Tryz.isAgg5
 z5:=Tryz.sizeOf5
 v5:=Tryz.zeroValue5
 t9:=Tryz.underlying9
 a9:=Tryz.isAgg9
 z9:=Tryz.sizeOf9
 v9:=Tryz.zeroValue9
 t21:=Tryz.underlying21
 a21:=Tryz.isAgg21
 z21:=Tryz.sizeOf21
 v21:=Tryz.zeroValue21
 t46:=Tryz.underlying159
 a46:=Tryz.isAgg159
 z46:=Tryz.sizeOf159
 v46:=Tryz.zeroValue159
 t105:=Tryz.underlying193
 a105:=Tryz.isAgg193
 z105:=Tryz.sizeOf193
 v105:=Tryz.zeroValue193
 t119:=Tryz.underlying246
 a119:=Tryz.isAgg246
 z119:=Tryz.sizeOf246
 t138:=Tryz.underlying248
 a138:=Tryz.isAgg248
 z138:=Tryz.sizeOf248
 v138:=Tryz.zeroValue248
 t139:=Tryz.underlying249
 a139:=Tryz.isAgg249
 z139:=Tryz.sizeOf249
 v139:=Tryz.zeroValue249
 g3:=by kernel_rfl
 g4:=by kernel_rfl }
open Go.RowKit Go.Lib in
theorem Tryz.utf8_DecodeRuneInString (s:ByteArray) (w:World) (hT:Lib.Utf8Tabs 1 2 w) :
  Calls Tryz.prog 119 #[.string s] w fun e w'=>e = .returned (.tuple #[.int .i32 (Lib.decodeGo s).1,.int .i64 (Lib.decodeGo s).2])/\Below w.heap.size w w':=Any.utf8_DecodeRuneInString Tryz.lays197 s w hT
end Go.Proofs
namespace Go.A
open Go.Proofs
section
variable {P:Program} {σ:ASt} {w:World}
theorem reps_ints {k:IntKind}:∀ {zs:List Int} {vs:List Value},Reps σ w (zs.map (AV.int k)) vs->vs=zs.map (Value.int k)
 | [],vs,h=>by cases h;rfl
 | z::zs,vs,h=>by
   cases h with
   | cons h1 h2=>
     cases h1
     rw [reps_ints h2]
     rfl
theorem tabIs_of (hs:Sim σ w) {name:String} {b:Nat} {k:IntKind} {zs:List Int} (hg:P.globalNamed name=some b) (hb:σ b=some (.fix (zs.map (AV.int k)))):Lib.TabIs P w name k zs:=by
 obtain ⟨h1,c,T,fr,h2,h3⟩:=hs b _ hb
 obtain ⟨vs,h4,h5⟩:=h1.vals
 have h6:=reps_ints h4
 subst h6
 unfold Lib.TabIs World.var?
 rw [hg,Option.bind_some]
 simp only [h2]
 congr 1
 apply Array.ext
 ·simp [h3]
 ·intro j hj hj'
  have h7 := h5 j (Value.int k (zs[j]'(by simpa using hj'))) (by simp)
  simp only [World.cell?,h2,Nat.zero_add] at h7
  simp at h7 ⊢
  obtain ⟨_,h7⟩:=Array.getElem?_eq_some_iff.1 h7
  exact h7
theorem ACalls.of_ext {f:FuncId} {args:List AV} {r:AV} {u:Value} (h:∀ w vs,Sim σ w->Reps σ w args vs->Calls P f ⟨vs⟩ w fun e w'=>e = .returned u/\Ext w w') (hr:∀ w,Rep σ w r u):ACalls P f args σ fun v σ'=>v=r/\σ'=σ:=
 fun w vs hs ha=>(h w vs hs ha).mono fun e w' ⟨he,hx⟩=>⟨u,r,σ,he,⟨rfl,rfl⟩,ext_le hx,hs.ext hx,hr w'⟩
theorem ext_grow (w:World) (k:Nat) (os:Array Obj):Ext w (Go.Sort.grow (w.drewN k) os):=⟨⟨os,w.drawn+k⟩,rfl⟩
end
theorem Ext.of_eq {w w':World} (h:w'=w):Ext w w':=h▸Ext.refl w
def Tab (σ:ASt):Prop:=σ 5=some (.fix (Lib.pow10Tab.map (AV.int .u64)))
theorem Tab.set {σ:ASt} {b:Nat} {r:Option Role} (h:Tab σ) (hb:σ b=none):Tab (σ.set b r):=by
 unfold Tab at *
 rw [ASt.set_ne]
 ·exact h
 ·intro e;rw [<-e,h] at hb;cases hb
end Go.A
namespace Go.A
open Go.Proofs
theorem itoa_ok {σ:ASt} (h:Tab σ) {n:Int} (h0 : -9223372036854775808<=n) (h1:n<=9223372036854775807):ACalls Tryz.prog 181 [.int .i64 n] σ fun v σ'=>v = .str (Lib.itoa n)/\σ'=σ:=by
 refine ACalls.of_ext (u := .string ⟨(Lib.itoa n).toArray⟩) (fun w vs hs ha=>?_) fun w => .str _
 cases ha with
 | cons h2 h3=>
   cases h2;cases h3
   refine (Tryz.strconv_Itoa n h0 h1 w (tabIs_of hs (by kernel_rfl) h)).mono ?_
   rintro e w' ⟨he,k,os,rfl⟩
   exact ⟨he,ext_grow w k os⟩
end Go.A
namespace Go.A
abbrev oq (d:Nat) (x:QOp):AItem:=⟨some d,none,.q x,[]⟩
abbrev oe (d:Nat) (x:EOp):AItem:=⟨some d,none,.e x,[]⟩
abbrev oz (x:EOp):AItem:=⟨none,none,.e x,[]⟩
@[go_sem] theorem run_oq {P:Program} {K:AFr->ASt->Prop} {a:AFr} {σ:ASt} {d:Nat} {q:QOp} {r:List AItem}:runI P (oq d q::r) K a σ=qC P (q.ev a σ) (some d) r K a σ:=run_q
@[go_sem] theorem run_oe {P:Program} {K:AFr->ASt->Prop} {a:AFr} {σ:ASt} {d:Nat} {e:EOp} {r:List AItem}:runI P (oe d e::r) K a σ=e.step P a σ (eK P (some d) [] r K a):=run_e
@[go_sem] theorem run_oz {P:Program} {K:AFr->ASt->Prop} {a:AFr} {σ:ASt} {e:EOp} {r:List AItem}:runI P (oz e::r) K a σ=e.step P a σ (eK P none [] r K a):=run_e
open Go.Proofs
/-! 245: tabular/addr.letter -/
def c245_15:ACode := .seq (.ops [ oq 2 (.mv (.v (.int .i64 0)))]) (.seq (.block 0 (.seq (.ops [ oq 4 (.mv (.t 0)),oq 5 (.bin .geq (.t 4) (.v (.int .u8 65))),oq 6 (.mv (.t 5)),⟨some 7,some (6,true),.q (.mv (.t 0)),[]⟩,⟨some 8,some (6,true),.q (.bin .leq (.t 7) (.v (.int .u8 90))),[]⟩,oq 9 (.pick (.t 6) (.t 8) (.v (.bool false))),oq 3 (.mv (.t 9))]) (.cond (.t 3) (.seq (.ops [ oq 10 (.mv (.t 0)),oq 11 (.bin .sub (.t 10) (.v (.int .u8 65))),oq 12 (.conv .i64 (.t 11)),oq 13 (.bin .add (.t 12) (.v (.int .i64 1))),oq 2 (.mv (.t 13))]) .ret) (.seq (.ops [ oq 15 (.mv (.t 0)),oq 16 (.bin .geq (.t 15) (.v (.int .u8 97))),oq 17 (.mv (.t 16)),⟨some 18,some (17,true),.q (.mv (.t 0)),[]⟩,⟨some 19,some (17,true),.q (.bin .leq (.t 18) (.v (.int .u8 122))),[]⟩,oq 20 (.pick (.t 17) (.t 19) (.v (.bool false))),oq 14 (.mv (.t 20))]) (.cond (.t 14) (.seq (.ops [ oq 21 (.mv (.t 0)),oq 22 (.bin .sub (.t 21) (.v (.int .u8 97))),oq 23 (.conv .i64 (.t 22)),oq 24 (.bin .add (.t 23) (.v (.int .i64 1))),oq 2 (.mv (.t 24))]) .ret) .skip))))) (.seq (.ops [ oq 2 (.mv (.v (.int .i64 0)))]) .ret))
@[go_sem] def c245_15_wp:=wp_of c245_15.eq_1
def c245:AFn:=⟨25,[.t 2],c245_15⟩
theorem c245_ok:compF Tryz.prog Tryz.f245=some c245:=by kernel_rfl
theorem a245 {args:List AV} {σ:ASt} {R:AV->ASt->Prop} (hl:args.length<=25) (h:c245_15.wp Tryz.prog (RetQ [.t 2] R) (init args) σ):ACalls Tryz.prog 245 args σ R:=aFq Tryz.func245 c245_ok hl h
end Go.A
section
attribute [local go_sem] reduceCtorEq Nat.reduceEqDiff Nat.reduceAdd Nat.reduceSub Nat.reduceMul Nat.reduceLeDiff Int.reduceLT Int.reduceLE Int.reduceEq Int.reduceNeg Int.reduceAdd Int.reduceSub Int.reduceMul true_imp_iff forall_const Nat.mul_one Int.reduceToNat Nat.reducePow Int.reducePow Bool.true_and Bool.false_and Bool.and_false
attribute [local go_sem ↓] reduceIte
namespace Go.A
open Go.Proofs
def letterP (c:Int):Int:=if 65<=c/\c<=90 then c-64 else if 97<=c/\c<=122 then c-96 else 0
theorem letter_ok (c:Int) (h0:0<=c) (h1:c<=255):Pure Tryz.prog 245 [.int .u8 c] (.int .i64 (letterP c)):=by
 intro σ
 refine a245 (by simp) ?_
 repeat' (first|(simp (disch:=first|assumption|omega) only [go_sem])|with_reducible refine gC_d (fun h=>?_) (fun h=>?_)|with_reducible refine gC_dn (fun h=>?_) (fun h=>?_)|with_reducible refine condC_d (fun h=>?_) (fun h=>?_)|with_reducible refine condC_n (fun h=>?_) (fun h=>?_)|with_reducible refine condC_b (fun h=>?_) (fun h=>?_)|with_reducible refine boxC_by ?_ fun b hb=>?_)
 all_goals refine retC_by (Drop.refl _) (.refl _) ⟨?_,rfl⟩
 all_goals (simp only [letterP,resV_one];congr 1;repeat' split)<;>omega
structure Ref where
 row:Int
 col:Int
 absRow:Bool
 absCol:Bool
 deriving DecidableEq,Inhabited
def refAV (r:Ref):AV := .agg [.int .i64 r.row,.int .i64 r.col,.bool r.absRow,.bool r.absCol]
def Ref.good (r:Ref):Bool:=decide (0<=r.row/\r.row<3000/\0<=r.col/\r.col<700)
def Ref.zero:Ref:=⟨0,0,false,false⟩
end Go.A
namespace Go.A
open Go.Proofs
/-! 180: tabular/addr.Letters -/
def c180_15:ACode := .seq (.seq (.ops [ oq 12 (.mv (.t 0)),oq 13 (.bin .gtr (.t 12) (.v (.int .i64 0)))]) (.cond (.t 13) .skip (.exit 0))) (.seq (.block 1 (.ops [ oq 17 (.mv (.t 0)),oq 18 (.bin .sub (.t 17) (.v (.int .i64 1))),oq 19 (.bin .rem (.t 18) (.v (.int .i64 26))),oq 20 (.bin .add (.v (.int .i64 65)) (.t 19)),oq 21 (.conv .u8 (.t 20)),oq 22 (.bsl 1 [(.t 21)]),oq 23 (.b2s (.t 22)),oq 24 (.mv (.t 3)),oq 25 (.bin .add (.t 23) (.t 24)),oq 3 (.mv (.t 25))])) (.ops [ oq 14 (.mv (.t 0)),oq 15 (.bin .sub (.t 14) (.v (.int .i64 1))),oq 16 (.bin .quo (.t 15) (.v (.int .i64 26))),oq 0 (.mv (.t 16))]))
def c180_24:ACode := .seq (.ops [ oq 2 (.mv (.v (.str [])))]) (.seq (.seq (.ops [ oq 4 (.mv (.t 0)),oq 5 (.bin .lss (.t 4) (.v (.int .i64 0))),oq 6 (.mv (.t 5)),⟨some 7,some (6,false),.q (.mv (.t 0)),[]⟩,⟨some 8,some (6,false),.q (.bin .geq (.t 7) (.v (.int .i64 700))),[]⟩,oq 9 (.pick (.t 6) (.v (.bool true)) (.t 8))]) (.cond (.t 9) (.seq (.ops [ oq 2 (.mv (.v (.str [])))]) .ret) .skip)) (.seq (.ops [ oq 3 (.mv (.v (.str [])))]) (.seq (.seq (.ops [ oq 10 (.mv (.t 0)),oq 11 (.bin .add (.t 10) (.v (.int .i64 1))),oq 0 (.mv (.t 11))]) (.block 0 (.loop c180_15))) (.seq (.ops [ oq 26 (.mv (.t 3)),oq 2 (.mv (.t 26))]) .ret))))
@[go_sem] def c180_15_wp:=wp_of c180_15.eq_1
@[go_sem] def c180_24_wp:=wp_of c180_24.eq_1
def c180:AFn:=⟨27,[.t 2],c180_24⟩
theorem c180_ok:compF Tryz.prog Tryz.f180=some c180:=by kernel_rfl
theorem a180 {args:List AV} {σ:ASt} {R:AV->ASt->Prop} (hl:args.length<=27) (h:c180_24.wp Tryz.prog (RetQ [.t 2] R) (init args) σ):ACalls Tryz.prog 180 args σ R:=aFq Tryz.func180 c180_ok hl h
/-! 246: tabular/addr.Column -/
def c246_18:ACode := .seq (.ops [ oq 11 (.bin .lss (.t 10) (.t 9))]) (.seq (.cond (.t 11) .skip (.exit 0)) (.seq (.block 1 (.seq (.ops [ oq 12 (.ia 1 (.t 8) (.t 10)),oq 13 (.ld none (.t 12)),oq 6 (.mv (.t 13))]) (.seq (.seq (.ops [ oq 14 (.mv (.t 6)),oe 15 (.call 245 [(.t 14)]),oq 16 (.bin .eql (.t 15) (.v (.int .i64 0))),oq 17 (.mv (.t 16)),⟨some 18,some (17,false),.q (.mv (.t 4)),[]⟩,⟨some 19,some (17,false),.q (.bin .gtr (.t 18) (.v (.int .i64 700))),[]⟩,oq 20 (.pick (.t 17) (.v (.bool true)) (.t 19))]) (.cond (.t 20) (.seq (.ops [ oq 2 (.mv (.v (.int .i64 0))),oq 3 (.mv (.v (.bool false)))]) .ret) .skip)) (.ops [ oq 21 (.mv (.t 4)),oq 22 (.bin .mul (.v (.int .i64 26)) (.t 21)),oq 23 (.mv (.t 6)),oe 24 (.call 245 [(.t 23)]),oq 25 (.bin .add (.t 22) (.t 24)),oq 4 (.mv (.t 25))])))) (.ops [ oq 26 (.bin .add (.t 10) (.v (.int .i64 1))),oq 10 (.mv (.t 26))])))
def c246_32:ACode := .seq (.ops [ oq 2 (.mv (.v (.int .i64 0))),oq 3 (.mv (.v (.bool false)))]) (.seq (.ops [ oq 4 (.mv (.v (.int .i64 0)))]) (.seq (.seq (.ops [ oq 7 (.mv (.t 0)),oe 8 (.s2b (.t 7)),oq 9 (.len (.t 8)),oq 10 (.mv (.v (.int .i64 0)))]) (.block 0 (.loop c246_18))) (.seq (.seq (.ops [ oq 27 (.mv (.t 4)),oq 28 (.bin .lss (.t 27) (.v (.int .i64 1))),oq 29 (.mv (.t 28)),⟨some 30,some (29,false),.q (.mv (.t 4)),[]⟩,⟨some 31,some (29,false),.q (.bin .gtr (.t 30) (.v (.int .i64 700))),[]⟩,oq 32 (.pick (.t 29) (.v (.bool true)) (.t 31))]) (.cond (.t 32) (.seq (.ops [ oq 2 (.mv (.v (.int .i64 0))),oq 3 (.mv (.v (.bool false)))]) .ret) .skip)) (.seq (.ops [ oq 33 (.mv (.t 4)),oq 34 (.bin .sub (.t 33) (.v (.int .i64 1))),oq 2 (.mv (.t 34)),oq 3 (.mv (.v (.bool true)))]) .ret))))
@[go_sem] def c246_18_wp:=wp_of c246_18.eq_1
@[go_sem] def c246_32_wp:=wp_of c246_32.eq_1
def c246:AFn:=⟨35,[.t 2,.t 3],c246_32⟩
theorem c246_ok:compF Tryz.prog Tryz.f246=some c246:=by kernel_rfl
theorem a246 {args:List AV} {σ:ASt} {R:AV->ASt->Prop} (hl:args.length<=35) (h:c246_32.wp Tryz.prog (RetQ [.t 2,.t 3] R) (init args) σ):ACalls Tryz.prog 246 args σ R:=aFq Tryz.func246 c246_ok hl h
end Go.A
namespace Go.A
open Go.Proofs
def lettersF:Nat->Nat->List UInt8
 | 0,_ => []
 | k+1,n=>if n=0 then [] else lettersF k ((n-1) / 26) ++ [UInt8.ofNat (65+(n-1) % 26)]
def lettersP (col:Int):List UInt8:=if col<0\/700<=col then [] else lettersF 4 (col+1).toNat
theorem letters_ok (col:Int):Pure Tryz.prog 180 [.int .i64 col] (.str (lettersP col)):=by
 intro σ
 obtain ⟨q,hq⟩:∃ q,lettersP col=q:=⟨_,rfl⟩
 rw [hq]
 unfold lettersP at hq
 refine a180 (by simp) ?_
 by_cases hc:col<0\/700<=col
 ·rw [if_pos hc] at hq
  subst hq
  repeat' (first|(simp (disch:=first|assumption|omega) only [go_sem])|with_reducible refine gC_d (fun h=>?_) (fun h=>?_)|with_reducible refine gC_dn (fun h=>?_) (fun h=>?_)|with_reducible refine condC_d (fun h=>?_) (fun h=>?_)|with_reducible refine condC_n (fun h=>?_) (fun h=>?_)|with_reducible refine condC_b (fun h=>?_) (fun h=>?_)|with_reducible refine boxC_by ?_ fun b hb=>?_)
  all_goals first|(exfalso;omega)|exact retC_by (Drop.refl _) (.refl _) ⟨rfl,rfl⟩
 ·rw [if_neg hc] at hq
  obtain ⟨N,hN⟩:∃ N,(col+1).toNat=N:=⟨_,rfl⟩
  rw [hN] at hq
  have h0:¬ col<0:=by omega
  have h1:¬ 700<=col:=by omega
  have hc1:col+1=(N:Int):=by omega
  simp (disch:=first|assumption|omega) only [go_sem,h0,h1,hc1]
  refine wp_loop_by (fun (i:Nat×Nat×List UInt8) a σ'=>i.2.1<26 ^ i.1/\i.1<=4/\i.2.2.length+i.1=4/\q=lettersF i.1 i.2.1++i.2.2/\a 0 = .int .i64 i.2.1/\a 3 = .str i.2.2/\σ'=σ) (fun i=>i.1) (4,N,[]) (Dr.now ⟨by dsimp only;omega,by simp,by simp,by simp [hq],?_,?_,rfl⟩) ?_
  ·simp (disch:=first|assumption|omega) only [go_sem]
  ·simp (disch:=first|assumption|omega) only [go_sem]
  rintro ⟨k,n,s⟩ a σ1 ⟨hn,hk,hs,hqe,h0,h3,rfl⟩
  dsimp only at hn hk hs hqe h0 h3
  by_cases hz:n=0
  ·subst hz
   simp (disch:=first|assumption|omega) only [go_sem,h0,h3]
   refine retC_by (Drop.refl _) (.refl _) ⟨?_,rfl⟩
   have e:lettersF k 0 = []:=by cases k<;>rfl
   rw [hqe,e];rfl
  ·obtain ⟨m,rfl⟩:∃ m,n=m+1:=⟨n-1,by omega⟩
   have hb:(m:Int)<456976:=by
    have:=Nat.pow_le_pow_right (n:=26) (by omega) hk
    omega
   have hp:0<(m:Int)+1:=by omega
   have e1:(m:Int)+1-1=m:=by omega
   have e2:(m:Int).tmod 26=((m % 26:Nat):Int):=rfl
   have e3:(m:Int).tdiv 26=((m / 26:Nat):Int):=rfl
   have e4:(65+((m % 26:Nat):Int)).toNat=65+m % 26:=by omega
   have hk0:k≠0:=by rintro rfl;simp at hn
   obtain ⟨k,rfl⟩:∃ k',k=k'+1:=⟨k-1,by omega⟩
   have hs1:1+s.length<=9223372036854775807:=by omega
   simp (disch:=first|assumption|omega) only [go_sem,h0,h3,hp,e1,e2,e3,e4]
   refine ⟨(k,m / 26,UInt8.ofNat (65+m % 26)::s),by dsimp only;omega,Dr.now ⟨?_,by dsimp only;omega,by simp;omega,?_,?_,?_,rfl⟩⟩
   ·dsimp only
    rw [Nat.pow_succ] at hn
    omega
   ·dsimp only
    rw [hqe,lettersF,if_neg (by omega)]
    simp
   ·simp (disch:=first|assumption|omega) only [go_sem]
   ·simp (disch:=first|assumption|omega) only [go_sem]
def colF:Int->List UInt8->Option Int
 | n,[]=>some n
 | n,c::cs=>if letterP c.toNat=0\/700<n then none else colF (26*n+letterP c.toNat) cs
def columnP (l:List UInt8):Int×Bool:=
 match colF 0 l with
 | some n=>if n<1\/700<n then (0,false) else (n-1,true)
 | none=>(0,false)
theorem letterP_bd (c:Int):0<=letterP c/\letterP c<=26:=by
 unfold letterP
 split
 ·omega
 ·split<;>omega
theorem column_ok (l:List UInt8) (hl:l.length<=9223372036854775807):Pure Tryz.prog 246 [.str l] (.tuple [.int .i64 (columnP l).1,.bool (columnP l).2]):=by
 intro σ
 obtain ⟨q,hq⟩:∃ q,columnP l=q:=⟨_,rfl⟩
 rw [hq]
 refine a246 (by simp) ?_
 simp (disch:=first|assumption|omega) only [go_sem]
 refine s2b_shr ?_
 simp (disch:=first|assumption|omega) only [go_sem]
 refine wp_loop_by (fun (i:Nat×Int) a σ'=>i.1<=l.length/\0<=i.2/\i.2<=18226/\colF 0 l=colF i.2 (l.drop i.1)/\a 4 = .int .i64 i.2/\a 8 = .sl .shr (bytesAV l)/\a 9 = .int .i64 l.length/\a 10 = .int .i64 i.1/\a 2 = .int .i64 0/\a 3 = .bool false/\σ'=σ) (fun i=>l.length-i.1) (0,0) (Dr.now ⟨by simp,by simp,by simp,rfl,?_,?_,?_,?_,?_,?_,rfl⟩) ?_
 ·simp (disch:=first|assumption|omega) only [go_sem]
 ·simp (disch:=first|assumption|omega) only [go_sem]
 ·simp (disch:=first|assumption|omega) only [go_sem]
 ·simp (disch:=first|assumption|omega) only [go_sem]
 ·simp (disch:=first|assumption|omega) only [go_sem]
 ·simp (disch:=first|assumption|omega) only [go_sem]
 rintro ⟨i,n⟩ a σ1 ⟨hi,hn0,hn1,hcol,h4,h8,h9,h10,h2,h3,rfl⟩
 dsimp only at hi hn0 hn1 hcol h4 h10
 by_cases hlt:i<l.length
 ·have hidx : l[i]? = some (l[i]'hlt) := List.getElem?_eq_getElem hlt
  obtain ⟨c, hc⟩ : ∃ c, l[i]'hlt = c := ⟨_, rfl⟩
  rw [hc] at hidx
  have hcb:(c.toNat:Int)<=255:=by have:=c.toNat_lt;omega
  have hbd:=letterP_bd c.toNat
  rw [List.drop_eq_getElem_cons hlt,hc,colF] at hcol
  repeat' (first|(simp (disch:=first|assumption|omega) only [go_sem,h4,h8,h9,h10,hidx])|refine (letter_ok c.toNat (by omega) hcb).use ?_|with_reducible refine gC_d (fun h=>?_) (fun h=>?_)|with_reducible refine gC_dn (fun h=>?_) (fun h=>?_)|with_reducible refine condC_d (fun h=>?_) (fun h=>?_)|with_reducible refine condC_n (fun h=>?_) (fun h=>?_)|with_reducible refine condC_b (fun h=>?_) (fun h=>?_)|with_reducible refine boxC_by ?_ fun b hb=>?_)
  ·rw [if_pos (by omega)] at hcol
   unfold columnP at hq
   rw [hcol] at hq
   subst hq
   exact retC_by (Drop.refl _) (.refl _) ⟨rfl,rfl⟩
  ·rename_i hz
   rw [if_neg (by omega)] at hcol
   refine ⟨(i+1,26*n+letterP c.toNat),by dsimp only;omega,Dr.now ⟨by dsimp only;omega,by dsimp only;omega,by dsimp only;omega,hcol,?_,?_,?_,?_,?_,?_,rfl⟩⟩
   ·simp (disch:=first|assumption|omega) only [go_sem]
   ·simp (disch:=first|assumption|omega) only [go_sem,h8]
   ·simp (disch:=first|assumption|omega) only [go_sem,h9]
   ·simp (disch:=first|assumption|omega) only [go_sem]
   ·simp (disch:=first|assumption|omega) only [go_sem,h2]
   ·simp (disch:=first|assumption|omega) only [go_sem,h3]
  ·rw [if_pos (by omega)] at hcol
   unfold columnP at hq
   rw [hcol] at hq
   subst hq
   exact retC_by (Drop.refl _) (.refl _) ⟨rfl,rfl⟩
 ·have e:l.drop i = []:=List.drop_eq_nil_of_le (by omega)
  rw [e,colF] at hcol
  unfold columnP at hq
  rw [hcol] at hq
  repeat' (first|(simp (disch:=first|assumption|omega) only [go_sem,h4,h9,h10])|with_reducible refine gC_d (fun h=>?_) (fun h=>?_)|with_reducible refine gC_dn (fun h=>?_) (fun h=>?_)|with_reducible refine condC_d (fun h=>?_) (fun h=>?_)|with_reducible refine condC_n (fun h=>?_) (fun h=>?_)|with_reducible refine condC_b (fun h=>?_) (fun h=>?_)|with_reducible refine boxC_by ?_ fun b hb=>?_)
  all_goals refine retC_by (Drop.refl _) (.refl _) ⟨?_,rfl⟩
  all_goals (simp only [resV_two] at *;split at hq)<;>first|(subst hq;rfl)|(exfalso;omega)
end Go.A
namespace Go.A
open Go.Proofs
/-! 232: tabular/addr.Read -/
def c232_15:ACode := .seq (.seq (.ops [ oq 25 (.mv (.t 5)),oq 26 (.mv (.t 0)),oq 27 (.lenS (.t 26)),oq 28 (.bin .lss (.t 25) (.t 27)),oq 29 (.mv (.t 28)),⟨some 30,some (29,true),.q (.mv (.t 0)),[]⟩,⟨some 31,some (29,true),.q (.mv (.t 5)),[]⟩,⟨some 32,some (29,true),.q (.idx (.t 30) (.t 31)),[]⟩,⟨some 33,some (29,true),.e (.call 245 [(.t 32)]),[]⟩,⟨some 34,some (29,true),.q (.bin .gtr (.t 33) (.v (.int .i64 0))),[]⟩,oq 35 (.pick (.t 29) (.t 34) (.v (.bool false)))]) (.cond (.t 35) .skip (.exit 0))) (.block 1 (.ops [ oq 36 (.mv (.t 5)),oq 37 (.bin .add (.t 36) (.v (.int .i64 1))),oq 5 (.mv (.t 37))]))
def c232_38:ACode := .seq (.seq (.ops [ oq 63 (.mv (.t 5)),oq 64 (.mv (.t 0)),oq 65 (.lenS (.t 64)),oq 66 (.bin .lss (.t 63) (.t 65)),oq 67 (.mv (.t 66)),⟨some 68,some (67,true),.q (.mv (.t 0)),[]⟩,⟨some 69,some (67,true),.q (.mv (.t 5)),[]⟩,⟨some 70,some (67,true),.q (.idx (.t 68) (.t 69)),[]⟩,⟨some 71,some (67,true),.q (.bin .geq (.t 70) (.v (.int .u8 48))),[]⟩,oq 72 (.pick (.t 67) (.t 71) (.v (.bool false))),oq 73 (.mv (.t 72)),⟨some 74,some (73,true),.q (.mv (.t 0)),[]⟩,⟨some 75,some (73,true),.q (.mv (.t 5)),[]⟩,⟨some 76,some (73,true),.q (.idx (.t 74) (.t 75)),[]⟩,⟨some 77,some (73,true),.q (.bin .leq (.t 76) (.v (.int .u8 57))),[]⟩,oq 78 (.pick (.t 73) (.t 77) (.v (.bool false)))]) (.cond (.t 78) .skip (.exit 2))) (.block 3 (.seq (.ops [ oq 79 (.mv (.t 9)),oq 80 (.bin .mul (.v (.int .i64 10)) (.t 79)),oq 81 (.mv (.t 0)),oq 82 (.mv (.t 5)),oq 83 (.idx (.t 81) (.t 82)),oq 84 (.bin .sub (.t 83) (.v (.int .u8 48))),oq 85 (.conv .i64 (.t 84)),oq 86 (.bin .add (.t 80) (.t 85)),oq 87 (.mnx false (.t 86) (.v (.int .i64 3001))),oq 9 (.mv (.t 87))]) (.ops [ oq 88 (.mv (.t 5)),oq 89 (.bin .add (.t 88) (.v (.int .i64 1))),oq 5 (.mv (.t 89))])))
def c232_50:ACode := .seq (.seq (.ops [ oq 90 (.mv (.t 9)),oq 91 (.bin .lss (.t 90) (.v (.int .i64 1))),oq 92 (.mv (.t 91)),⟨some 93,some (92,false),.q (.mv (.t 9)),[]⟩,⟨some 94,some (92,false),.q (.bin .gtr (.t 93) (.v (.int .i64 3000))),[]⟩,oq 95 (.pick (.t 92) (.v (.bool true)) (.t 94)),oq 96 (.mv (.t 95)),⟨some 97,some (96,false),.q (.mv (.t 0)),[]⟩,⟨some 98,some (96,false),.q (.mv (.t 10)),[]⟩,⟨some 99,some (96,false),.q (.idx (.t 97) (.t 98)),[]⟩,⟨some 100,some (96,false),.q (.bin .eql (.t 99) (.v (.int .u8 48))),[]⟩,oq 101 (.pick (.t 96) (.v (.bool true)) (.t 100)),oq 102 (.mv (.t 101)),⟨some 103,some (102,false),.q (.mv (.t 0)),[]⟩,⟨some 104,some (102,false),.q (.mv (.t 5)),[]⟩,⟨some 105,some (102,false),.e (.call 247 [(.t 103),(.t 104)]),[]⟩,⟨some 106,some (102,false),.e (.call 245 [(.t 105)]),[]⟩,⟨some 107,some (102,false),.q (.bin .gtr (.t 106) (.v (.int .i64 0))),[]⟩,oq 108 (.pick (.t 102) (.v (.bool true)) (.t 107)),oq 109 (.mv (.t 108)),⟨some 110,some (109,false),.q (.mv (.t 0)),[]⟩,⟨some 111,some (109,false),.q (.mv (.t 5)),[]⟩,⟨some 112,some (109,false),.e (.call 247 [(.t 110),(.t 111)]),[]⟩,⟨some 113,some (109,false),.q (.bin .eql (.t 112) (.v (.int .u8 95))),[]⟩,oq 114 (.pick (.t 109) (.v (.bool true)) (.t 113))]) (.cond (.t 114) (.seq (.ops [ oq 115 (.build [(.int .i64 0),(.int .i64 0),(.bool false),(.bool false)] []),oz (.store 4 (.t 2) (.t 115)),oq 3 (.mv (.v (.int .i64 0)))]) .ret) .skip)) (.seq (.ops [ oq 116 (.mv (.t 9)),oq 117 (.bin .sub (.t 116) (.v (.int .i64 1))),oq 118 (.mv (.t 7)),oq 119 (.fa 0 (.t 4)),oz (.store 1 (.t 119) (.t 117)),oq 120 (.fa 1 (.t 4)),oz (.store 1 (.t 120) (.t 118))]) (.seq (.ops [ oq 121 (.ld (some 4) (.t 4)),oq 122 (.mv (.t 5)),oz (.store 4 (.t 2) (.t 121)),oq 3 (.mv (.t 122))]) .ret))
def c232_52:ACode := .seq (.ops [ oq 62 (.mv (.t 5)),oq 9 (.mv (.v (.int .i64 0))),oq 10 (.mv (.t 62))]) (.seq (.block 2 (.loop c232_38)) c232_50)
def c232_53:ACode := .seq (.seq (.ops [ oq 49 (.mv (.t 5)),oq 50 (.mv (.t 0)),oq 51 (.lenS (.t 50)),oq 52 (.bin .lss (.t 49) (.t 51)),oq 53 (.mv (.t 52)),⟨some 54,some (53,true),.q (.mv (.t 0)),[]⟩,⟨some 55,some (53,true),.q (.mv (.t 5)),[]⟩,⟨some 56,some (53,true),.q (.idx (.t 54) (.t 55)),[]⟩,⟨some 57,some (53,true),.q (.bin .eql (.t 56) (.v (.int .u8 36))),[]⟩,oq 58 (.pick (.t 53) (.t 57) (.v (.bool false)))]) (.cond (.t 58) (.seq (.ops [ oq 59 (.fa 2 (.t 4)),oz (.store 1 (.t 59) (.v (.bool true)))]) (.ops [ oq 60 (.mv (.t 5)),oq 61 (.bin .add (.t 60) (.v (.int .i64 1))),oq 5 (.mv (.t 61))])) .skip)) c232_52
def c232_54:ACode := .seq (.seq (.ops [ oq 46 (.mv (.t 8)),oq 47 (.un .not (.t 46))]) (.cond (.t 47) (.seq (.ops [ oq 48 (.build [(.int .i64 0),(.int .i64 0),(.bool false),(.bool false)] []),oz (.store 4 (.t 2) (.t 48)),oq 3 (.mv (.v (.int .i64 0)))]) .ret) .skip)) c232_53
def c232_55:ACode := .seq (.ops [ oq 39 (.mv (.t 0)),oq 40 (.mv (.t 6)),oq 41 (.mv (.t 5)),oq 42 (.sls (true,0) (.t 39) (.t 40) (.t 41)),oe 43 (.call 246 [(.t 42)]),oq 38 (.mv (.t 43)),oq 44 (.ext 0 (.t 38)),oq 45 (.ext 1 (.t 38)),oq 7 (.mv (.t 44)),oq 8 (.mv (.t 45))]) c232_54
def c232_57:ACode := .seq (.ops [ oq 24 (.mv (.t 5)),oq 6 (.mv (.t 24))]) (.seq (.block 0 (.loop c232_15)) c232_55)
def c232_58:ACode := .seq (.seq (.ops [ oq 11 (.mv (.t 5)),oq 12 (.mv (.t 0)),oq 13 (.lenS (.t 12)),oq 14 (.bin .lss (.t 11) (.t 13)),oq 15 (.mv (.t 14)),⟨some 16,some (15,true),.q (.mv (.t 0)),[]⟩,⟨some 17,some (15,true),.q (.mv (.t 5)),[]⟩,⟨some 18,some (15,true),.q (.idx (.t 16) (.t 17)),[]⟩,⟨some 19,some (15,true),.q (.bin .eql (.t 18) (.v (.int .u8 36))),[]⟩,oq 20 (.pick (.t 15) (.t 19) (.v (.bool false)))]) (.cond (.t 20) (.seq (.ops [ oq 21 (.fa 3 (.t 4)),oz (.store 1 (.t 21) (.v (.bool true)))]) (.ops [ oq 22 (.mv (.t 5)),oq 23 (.bin .add (.t 22) (.v (.int .i64 1))),oq 5 (.mv (.t 23))])) .skip)) c232_57
def c232_59:ACode := .seq (.ops [ oq 5 (.mv (.v (.int .i64 0)))]) c232_58
def c232_60:ACode := .seq (.ops [ oe 4 (.alloc [(.int .i64 0),(.int .i64 0),(.bool false),(.bool false)])]) c232_59
def c232_61:ACode := .seq (.ops [ oe 2 (.alloc [(.int .i64 0),(.int .i64 0),(.bool false),(.bool false)]),oq 3 (.mv (.v (.int .i64 0)))]) c232_60
@[go_sem] def c232_15_wp:=wp_of c232_15.eq_1
@[go_sem] def c232_38_wp:=wp_of c232_38.eq_1
@[go_sem] def c232_50_wp:=wp_of c232_50.eq_1
@[go_sem] def c232_52_wp:=wp_of c232_52.eq_1
@[go_sem] def c232_53_wp:=wp_of c232_53.eq_1
@[go_sem] def c232_54_wp:=wp_of c232_54.eq_1
@[go_sem] def c232_55_wp:=wp_of c232_55.eq_1
@[go_sem] def c232_57_wp:=wp_of c232_57.eq_1
@[go_sem] def c232_58_wp:=wp_of c232_58.eq_1
@[go_sem] def c232_59_wp:=wp_of c232_59.eq_1
@[go_sem] def c232_60_wp:=wp_of c232_60.eq_1
@[go_sem] def c232_61_wp:=wp_of c232_61.eq_1
def c232:AFn:=⟨123,[.c 2 (some 4),.t 3],c232_61⟩
theorem c232_ok:compF Tryz.prog Tryz.f232=some c232:=by kernel_rfl
theorem a232 {args:List AV} {σ:ASt} {R:AV->ASt->Prop} (hl:args.length<=123) (h:c232_61.wp Tryz.prog (RetQ [.c 2 (some 4),.t 3] R) (init args) σ):ACalls Tryz.prog 232 args σ R:=aFq Tryz.func232 c232_ok hl h
/-! 247: tabular/addr.at -/
def c247_9:ACode := .seq (.ops [ oq 4 (.mv (.v (.int .u8 0)))]) (.seq (.seq (.ops [ oq 5 (.mv (.t 1)),oq 6 (.mv (.t 0)),oq 7 (.lenS (.t 6)),oq 8 (.bin .lss (.t 5) (.t 7))]) (.cond (.t 8) (.seq (.ops [ oq 9 (.mv (.t 0)),oq 10 (.mv (.t 1)),oq 11 (.idx (.t 9) (.t 10)),oq 4 (.mv (.t 11))]) .ret) .skip)) (.seq (.ops [ oq 4 (.mv (.v (.int .u8 0)))]) .ret))
@[go_sem] def c247_9_wp:=wp_of c247_9.eq_1
def c247:AFn:=⟨12,[.t 4],c247_9⟩
theorem c247_ok:compF Tryz.prog Tryz.f247=some c247:=by kernel_rfl
theorem a247 {args:List AV} {σ:ASt} {R:AV->ASt->Prop} (hl:args.length<=12) (h:c247_9.wp Tryz.prog (RetQ [.t 4] R) (init args) σ):ACalls Tryz.prog 247 args σ R:=aFq Tryz.func247 c247_ok hl h
end Go.A
namespace Go.A
open Go.Proofs
def atP (l:List UInt8) (i:Nat):Int:=match l[i]? with
 | some c=>c.toNat
 | none=>0
theorem atP_bd (l:List UInt8) (i:Nat):0<=atP l i/\atP l i<=255:=by
 unfold atP
 split
 ·rename_i c _;have:=c.toNat_lt;omega
 ·omega
theorem at_ok (l:List UInt8) (i:Nat) (hl:l.length<=9223372036854775807) (hi:i<=l.length):Pure Tryz.prog 247 [.str l,.int .i64 i] (.int .u8 (atP l i)):=by
 intro σ
 refine a247 (by simp) ?_
 unfold atP
 by_cases hlt:i<l.length
 ·have hidx : l[i]? = some (l[i]'hlt) := List.getElem?_eq_getElem hlt
  rw [hidx]
  simp (disch:=first|assumption|omega) only [go_sem,hidx]
  exact retC_by (Drop.refl _) (.refl _) ⟨rfl,rfl⟩
 ·rw [List.getElem?_eq_none (by omega)]
  simp (disch:=first|assumption|omega) only [go_sem]
  exact retC_by (Drop.refl _) (.refl _) ⟨rfl,rfl⟩
def runL (p:UInt8->Bool):List UInt8->Nat
 | []=>0
 | c::cs=>if p c then runL p cs+1 else 0
theorem runL_le (p:UInt8->Bool):∀ l,runL p l<=l.length
 | []=>Nat.le_refl _
 | c::cs=>by
   have:=runL_le p cs
   unfold runL
   split<;>simp<;>omega
def isL (c:UInt8):Bool:=decide (0<letterP c.toNat)
def isD (c:UInt8):Bool:=decide (48<=c.toNat/\c.toNat<=57)
def numF:Int->List UInt8->Int
 | n,[]=>n
 | n,c::cs=>if isD c then numF (min (10*n+(c.toNat-48)) 3001) cs else n
def readQ (l:List UInt8) (i:Nat) (col:Int) (ar ac:Bool):Ref×Int:=
 if numF 0 (l.drop i)<1\/3000<numF 0 (l.drop i)\/atP l i=48\/0<letterP (atP l (i+runL isD (l.drop i)))\/atP l (i+runL isD (l.drop i))=95 then (.zero,0)
 else (⟨numF 0 (l.drop i)-1,col,ar,ac⟩,(i+runL isD (l.drop i):Nat))
set_option maxHeartbeats 1000000 in
theorem read2 (l:List UInt8) (hl:l.length<=9223372036854775000) (σ:ASt) (b0 b1:Nat) (hb0:σ b0=none) (hb1:σ b1=none) (n1:b0≠b1) (i2:Nat) (hi2:i2<=l.length) (col:Int) (ar ac:Bool) (q:Ref×Int) (hq:readQ l i2 col ar ac=q)
  (a:AFr) (h0:a 0 = .str l) (h2:a 2 = .ptr b0 0) (h4:a 4 = .ptr b1 0) (h5:a 5 = .int .i64 i2) (h7:a 7 = .int .i64 col) :
  ACode.wp Tryz.prog c232_52 (RetQ [.c 2 (some 4),.t 3] fun v σ'=>v = .tuple [refAV q.1,.int .i64 q.2]/\σ'=σ) a
   ((σ.set b0 (some (.obj [.int .i64 0,.int .i64 0,.bool false,.bool false]))).set b1 (some (.obj [.int .i64 0,.int .i64 0,.bool ar,.bool ac]))):=by
 have n2:b1≠b0:=Ne.symm n1
 obtain ⟨F,hF⟩:∃ F,F=ACode.wp Tryz.prog c232_50:=⟨_,rfl⟩
 have fin:∀ (i:Nat) (n:Int) (a:AFr),i2<=i->i<=l.length->0<=n->n<=3001->(n=0\/i2<i)->i2+runL isD (l.drop i2)=i->numF 0 (l.drop i2)=n →
   a 0 = .str l->a 2 = .ptr b0 0->a 4 = .ptr b1 0->a 5 = .int .i64 i->a 7 = .int .i64 col->a 9 = .int .i64 n->a 10 = .int .i64 i2 →
   F (RetQ [.c 2 (some 4),.t 3] fun v σ'=>v = .tuple [refAV q.1,.int .i64 q.2]/\σ'=σ) a
    ((σ.set b0 (some (.obj [.int .i64 0,.int .i64 0,.bool false,.bool false]))).set b1 (some (.obj [.int .i64 0,.int .i64 0,.bool ar,.bool ac]))):=by
  rw [hF]
  intro i n a hi hil hn0 hn1 hni hrun hnum h0 h2 h4 h5 h7 h9 h10
  unfold readQ at hq
  rw [hrun,hnum] at hq
  by_cases hn:n<1
  ·rw [if_pos (.inl hn)] at hq
   subst hq
   repeat' (first|(simp (disch:=first|assumption|omega) only [go_sem,h2,h9,hn,refAV])|with_reducible refine gC_d (fun h=>?_) (fun h=>?_)|with_reducible refine gC_dn (fun h=>?_) (fun h=>?_)|with_reducible refine condC_d (fun h=>?_) (fun h=>?_)|with_reducible refine condC_n (fun h=>?_) (fun h=>?_)|with_reducible refine condC_b (fun h=>?_) (fun h=>?_)|with_reducible refine boxC_by ?_ fun b hb=>?_)
   all_goals exact retC_by (by repeat' (first|exact Drop.refl _|with_reducible refine Drop.off ?_ (by assumption))) (.refl _) ⟨rfl,rfl⟩
  ·have hidx : l[i2]? = some (l[i2]'(by omega)) := List.getElem?_eq_getElem (by omega)
   obtain ⟨c, hc⟩ : ∃ c, l[i2]'(by omega) = c := ⟨_, rfl⟩
   rw [hc] at hidx
   have hat:atP l i2=c.toNat:=by unfold atP;rw [hidx]
   rw [hat] at hq
   have hb:=atP_bd l i
   repeat' (first|(simp (disch:=first|assumption|omega) only [go_sem,h0,h2,h4,h5,h7,h9,h10,hn,hidx,refAV])|refine (at_ok l i (by omega) hil).use ?_|refine (letter_ok _ hb.1 hb.2).use ?_|with_reducible refine gC_d (fun h=>?_) (fun h=>?_)|with_reducible refine gC_dn (fun h=>?_) (fun h=>?_)|with_reducible refine condC_d (fun h=>?_) (fun h=>?_)|with_reducible refine condC_n (fun h=>?_) (fun h=>?_)|with_reducible refine condC_b (fun h=>?_) (fun h=>?_)|with_reducible refine boxC_by ?_ fun b hb=>?_)
   all_goals first
    | (rw [if_pos (by omega)] at hq
       subst hq
       exact retC_by (by repeat' (first|exact Drop.refl _|with_reducible refine Drop.off ?_ (by assumption))) (.refl _) ⟨rfl,rfl⟩)
    | (rw [if_neg (by omega)] at hq
       subst hq
       exact retC_by (by repeat' (first|exact Drop.refl _|with_reducible refine Drop.off ?_ (by assumption))) (.refl _) ⟨rfl,rfl⟩)
 simp (disch:=first|assumption|omega) only [go_sem,h5]
 rw [<-hF]
 refine wp_loop_by (fun (i:Nat×Int) a σ'=>i2<=i.1/\i.1<=l.length/\0<=i.2/\i.2<=3001/\(i.2=0\/i2<i.1)/\i2+runL isD (l.drop i2)=i.1+runL isD (l.drop i.1)/\numF 0 (l.drop i2)=numF i.2 (l.drop i.1) ∧
  a 0 = .str l/\a 2 = .ptr b0 0/\a 4 = .ptr b1 0/\a 5 = .int .i64 i.1/\a 7 = .int .i64 col/\a 9 = .int .i64 i.2/\a 10 = .int .i64 i2 ∧
  σ'=(σ.set b0 (some (.obj [.int .i64 0,.int .i64 0,.bool false,.bool false]))).set b1 (some (.obj [.int .i64 0,.int .i64 0,.bool ar,.bool ac]))) (fun i=>l.length-i.1) (i2,0)
  (Dr.now ⟨Nat.le_refl _,hi2,by simp,by simp,.inl rfl,rfl,rfl,?_,?_,?_,?_,?_,?_,?_,rfl⟩) ?_
 ·simp (disch:=first|assumption|omega) only [go_sem,h0]
 ·simp (disch:=first|assumption|omega) only [go_sem,h2]
 ·simp (disch:=first|assumption|omega) only [go_sem,h4]
 ·simp (disch:=first|assumption|omega) only [go_sem,h5]
 ·simp (disch:=first|assumption|omega) only [go_sem,h7]
 ·simp (disch:=first|assumption|omega) only [go_sem]
 ·simp (disch:=first|assumption|omega) only [go_sem]
 clear h0 h2 h4 h5 h7
 rintro ⟨i,n⟩ a σ1 ⟨hi,hil,hn0,hn1,hni,hrun,hnum,h0,h2,h4,h5,h7,h9,h10,rfl⟩
 dsimp only at hi hil hn0 hn1 hni hrun hnum h5 h9
 by_cases hlt:i<l.length
 ·have hidx : l[i]? = some (l[i]'hlt) := List.getElem?_eq_getElem hlt
  obtain ⟨c, hc⟩ : ∃ c, l[i]'hlt = c := ⟨_, rfl⟩
  rw [hc] at hidx
  have hcb:(c.toNat:Int)<=255:=by have:=c.toNat_lt;omega
  rw [List.drop_eq_getElem_cons hlt,hc,runL] at hrun
  rw [List.drop_eq_getElem_cons hlt,hc,numF] at hnum
  have hat:atP l i=c.toNat:=by unfold atP;rw [hidx]
  by_cases hd:48<=(c.toNat:Int)/\(c.toNat:Int)<=57
  ·have hD:isD c=true:=by unfold isD;simp;omega
   rw [if_pos hD] at hrun hnum
   have hd1:=hd.1
   have hd2:=hd.2
   simp (disch:=first|assumption|omega) only [go_sem,h0,h5,h9,hidx,hd1,hd2]
   refine ⟨(i+1,min (10*n+(c.toNat-48)) 3001),by dsimp only;omega,Dr.now ⟨by dsimp only;omega,by dsimp only;omega,by dsimp only;omega,by dsimp only;omega,by dsimp only;omega,by dsimp only;omega,hnum,?_,?_,?_,?_,?_,?_,?_,rfl⟩⟩
   ·simp (disch:=first|assumption|omega) only [go_sem,h0]
   ·simp (disch:=first|assumption|omega) only [go_sem,h2]
   ·simp (disch:=first|assumption|omega) only [go_sem,h4]
   ·simp (disch:=first|assumption|omega) only [go_sem]
   ·simp (disch:=first|assumption|omega) only [go_sem,h7]
   ·simp (disch:=first|assumption|omega) only [go_sem]
   ·simp (disch:=first|assumption|omega) only [go_sem,h10]
  ·have hD:¬ isD c=true:=by unfold isD;simp;omega
   rw [if_neg hD] at hrun hnum
   repeat' (first|(simp (disch:=first|assumption|omega) only [go_sem,h0,h5,hidx])|with_reducible refine gC_d (fun h=>?_) (fun h=>?_)|with_reducible refine gC_dn (fun h=>?_) (fun h=>?_)|with_reducible refine condC_d (fun h=>?_) (fun h=>?_)|with_reducible refine condC_n (fun h=>?_) (fun h=>?_)|with_reducible refine condC_b (fun h=>?_) (fun h=>?_)|with_reducible refine boxC_by ?_ fun b hb=>?_)
   all_goals first|(exfalso;omega)|skip
   all_goals refine fin i n _ hi hil hn0 hn1 hni (by omega) hnum ?_ ?_ ?_ ?_ ?_ ?_ ?_<;>simp (disch:=first|assumption|omega) only [go_sem,h0,h2,h4,h5,h7,h9,h10]
 ·have e:l.drop i = []:=List.drop_eq_nil_of_le (by omega)
  rw [e,runL] at hrun
  rw [e,numF] at hnum
  simp (disch:=first|assumption|omega) only [go_sem,h0,h5]
  refine fin i n _ hi hil hn0 hn1 hni (by omega) hnum ?_ ?_ ?_ ?_ ?_ ?_ ?_<;>simp (disch:=first|assumption|omega) only [go_sem,h0,h2,h4,h5,h7,h9,h10]
def readR (l:List UInt8) (i:Nat) (ac:Bool):Ref×Int:=
 if (columnP ((l.take (i+runL isL (l.drop i))).drop i)).2=false then (.zero,0)
 else if atP l (i+runL isL (l.drop i))=36 then readQ l (i+runL isL (l.drop i)+1) (columnP ((l.take (i+runL isL (l.drop i))).drop i)).1 true ac
 else readQ l (i+runL isL (l.drop i)) (columnP ((l.take (i+runL isL (l.drop i))).drop i)).1 false ac
set_option maxHeartbeats 1000000 in
theorem read1 (l:List UInt8) (hl:l.length<=9223372036854775000) (σ:ASt) (b0 b1:Nat) (hb0:σ b0=none) (hb1:σ b1=none) (n1:b0≠b1) (i0:Nat) (hi0:i0<=l.length) (ac:Bool) (q:Ref×Int) (hq:readR l i0 ac=q)
  (a:AFr) (h0:a 0 = .str l) (h2:a 2 = .ptr b0 0) (h4:a 4 = .ptr b1 0) (h5:a 5 = .int .i64 i0) :
  ACode.wp Tryz.prog c232_57 (RetQ [.c 2 (some 4),.t 3] fun v σ'=>v = .tuple [refAV q.1,.int .i64 q.2]/\σ'=σ) a
   ((σ.set b0 (some (.obj [.int .i64 0,.int .i64 0,.bool false,.bool false]))).set b1 (some (.obj [.int .i64 0,.int .i64 0,.bool false,.bool ac]))):=by
 have n2:b1≠b0:=Ne.symm n1
 obtain ⟨F2,hF2⟩:∃ F,F=ACode.wp Tryz.prog c232_52:=⟨_,rfl⟩
 obtain ⟨F3,hF3⟩:∃ F,F=ACode.wp Tryz.prog c232_53:=⟨_,rfl⟩
 obtain ⟨F4,hF4⟩:∃ F,F=ACode.wp Tryz.prog c232_54:=⟨_,rfl⟩
 obtain ⟨F5,hF5⟩:∃ F,F=ACode.wp Tryz.prog c232_55:=⟨_,rfl⟩
 have fin:∀ (i:Nat) (a:AFr),i0<=i->i<=l.length->i0+runL isL (l.drop i0)=i->a 0 = .str l->a 2 = .ptr b0 0->a 4 = .ptr b1 0->a 5 = .int .i64 i->a 6 = .int .i64 i0 →
   F5 (RetQ [.c 2 (some 4),.t 3] fun v σ'=>v = .tuple [refAV q.1,.int .i64 q.2]/\σ'=σ) a
    ((σ.set b0 (some (.obj [.int .i64 0,.int .i64 0,.bool false,.bool false]))).set b1 (some (.obj [.int .i64 0,.int .i64 0,.bool false,.bool ac]))):=by
  intro i a hi hil hrun h0 h2 h4 h5 h6
  unfold readR at hq
  rw [hrun] at hq
  obtain ⟨C,hC⟩:∃ C,columnP ((l.take i).drop i0)=C:=⟨_,rfl⟩
  rw [hC] at hq
  obtain ⟨col,ok⟩:=C
  rw [hF5,c232_55_wp,wp_seq',← hF4]
  simp (disch:=first|assumption|omega) only [go_sem,h0,h5,h6]
  refine (column_ok ((l.take i).drop i0) (by simp;omega)).use ?_
  rw [hC]
  simp (disch:=first|assumption|omega) only [go_sem]
  rw [hF4,c232_54_wp,wp_seq',← hF3]
  cases ok
  ·rw [if_pos rfl] at hq
   subst hq
   simp (disch:=first|assumption|omega) only [go_sem,h2,refAV]
   exact retC_by (by repeat' (first|exact Drop.refl _|with_reducible refine Drop.off ?_ (by assumption))) (.refl _) ⟨rfl,rfl⟩
  ·rw [if_neg (by simp)] at hq
   simp (disch:=first|assumption|omega) only [go_sem]
   rw [hF3,c232_53_wp,wp_seq',← hF2]
   by_cases hlt:i<l.length
   ·have hidx : l[i]? = some (l[i]'hlt) := List.getElem?_eq_getElem hlt
    obtain ⟨c, hc⟩ : ∃ c, l[i]'hlt = c := ⟨_, rfl⟩
    rw [hc] at hidx
    have hat:atP l i=c.toNat:=by unfold atP;rw [hidx]
    rw [hat] at hq
    by_cases h36:(c.toNat:Int)=36
    ·rw [if_pos h36] at hq
     simp (disch:=first|assumption|omega) only [go_sem,h0,h4,h5,hidx,h36,ASt.set_set]
     rw [hF2]
     refine read2 l hl σ b0 b1 hb0 hb1 n1 (i+1) (by omega) col true ac q hq _ ?_ ?_ ?_ ?_ ?_<;>simp (disch:=first|assumption|omega) only [go_sem,h0,h2,h4]
    ·rw [if_neg h36] at hq
     simp (disch:=first|assumption|omega) only [go_sem,h0,h5,hidx,h36]
     rw [hF2]
     refine read2 l hl σ b0 b1 hb0 hb1 n1 i (by omega) col false ac q hq _ ?_ ?_ ?_ ?_ ?_<;>simp (disch:=first|assumption|omega) only [go_sem,h0,h2,h4,h5]
   ·have hat:atP l i=0:=by unfold atP;rw [List.getElem?_eq_none (by omega)]
    rw [hat,if_neg (by omega)] at hq
    simp (disch:=first|assumption|omega) only [go_sem,h0,h5]
    rw [hF2]
    refine read2 l hl σ b0 b1 hb0 hb1 n1 i (by omega) col false ac q hq _ ?_ ?_ ?_ ?_ ?_<;>simp (disch:=first|assumption|omega) only [go_sem,h0,h2,h4,h5]
 rw [c232_57_wp,wp_seq']
 simp (disch:=first|assumption|omega) only [go_sem,h5]
 rw [<-hF5]
 refine wp_loop_by (fun (i:Nat) a σ'=>i0<=i/\i<=l.length/\i0+runL isL (l.drop i0)=i+runL isL (l.drop i)/\a 0 = .str l/\a 2 = .ptr b0 0/\a 4 = .ptr b1 0/\a 5 = .int .i64 i/\a 6 = .int .i64 i0 ∧
  σ'=(σ.set b0 (some (.obj [.int .i64 0,.int .i64 0,.bool false,.bool false]))).set b1 (some (.obj [.int .i64 0,.int .i64 0,.bool false,.bool ac]))) (fun i=>l.length-i) i0
  (Dr.now ⟨Nat.le_refl _,hi0,rfl,?_,?_,?_,?_,?_,rfl⟩) ?_
 ·simp (disch:=first|assumption|omega) only [go_sem,h0]
 ·simp (disch:=first|assumption|omega) only [go_sem,h2]
 ·simp (disch:=first|assumption|omega) only [go_sem,h4]
 ·simp (disch:=first|assumption|omega) only [go_sem,h5]
 ·simp (disch:=first|assumption|omega) only [go_sem]
 clear h0 h2 h4 h5
 rintro i a σ1 ⟨hi,hil,hrun,h0,h2,h4,h5,h6,rfl⟩
 by_cases hlt:i<l.length
 ·have hidx : l[i]? = some (l[i]'hlt) := List.getElem?_eq_getElem hlt
  obtain ⟨c, hc⟩ : ∃ c, l[i]'hlt = c := ⟨_, rfl⟩
  rw [hc] at hidx
  have hcb:(c.toNat:Int)<=255:=by have:=c.toNat_lt;omega
  rw [List.drop_eq_getElem_cons hlt,hc,runL] at hrun
  simp (disch:=first|assumption|omega) only [go_sem,h0,h5,hidx]
  refine (letter_ok c.toNat (by omega) hcb).use ?_
  by_cases hL:0<letterP c.toNat
  ·rw [if_pos (by unfold isL;simpa using hL)] at hrun
   simp (disch:=first|assumption|omega) only [go_sem,h5,hL]
   refine ⟨i+1,by dsimp only;omega,Dr.now ⟨by omega,by omega,by omega,?_,?_,?_,?_,?_,rfl⟩⟩
   ·simp (disch:=first|assumption|omega) only [go_sem,h0]
   ·simp (disch:=first|assumption|omega) only [go_sem,h2]
   ·simp (disch:=first|assumption|omega) only [go_sem,h4]
   ·simp (disch:=first|assumption|omega) only [go_sem]
   ·simp (disch:=first|assumption|omega) only [go_sem,h6]
  ·rw [if_neg (by unfold isL;simpa using hL)] at hrun
   simp (disch:=first|assumption|omega) only [go_sem,hL]
   refine fin i _ hi hil (by omega) ?_ ?_ ?_ ?_ ?_<;>simp (disch:=first|assumption|omega) only [go_sem,h0,h2,h4,h5,h6]
 ·have e:l.drop i = []:=List.drop_eq_nil_of_le (by omega)
  rw [e,runL] at hrun
  simp (disch:=first|assumption|omega) only [go_sem,h0,h5]
  refine fin i _ hi hil (by omega) ?_ ?_ ?_ ?_ ?_<;>simp (disch:=first|assumption|omega) only [go_sem,h0,h2,h4,h5,h6]
def readP (l:List UInt8):Ref×Int:=if atP l 0=36 then readR l 1 true else readR l 0 false
theorem read_ok (l:List UInt8) (hl:l.length<=9223372036854775000):Pure Tryz.prog 232 [.str l] (.tuple [refAV (readP l).1,.int .i64 (readP l).2]):=by
 intro σ
 obtain ⟨q,hq⟩:∃ q,readP l=q:=⟨_,rfl⟩
 rw [hq]
 unfold readP at hq
 refine a232 (by simp) ?_
 obtain ⟨F,hF⟩:∃ F,F=ACode.wp Tryz.prog c232_57:=⟨_,rfl⟩
 obtain ⟨F8,hF8⟩:∃ F,F=ACode.wp Tryz.prog c232_58:=⟨_,rfl⟩
 obtain ⟨F9,hF9⟩:∃ F,F=ACode.wp Tryz.prog c232_59:=⟨_,rfl⟩
 obtain ⟨F0,hF0⟩:∃ F,F=ACode.wp Tryz.prog c232_60:=⟨_,rfl⟩
 rw [c232_61_wp,wp_seq',← hF0]
 simp (disch:=first|assumption|omega) only [go_sem]
 refine aBq fun b0 hb0=>?_
 simp (disch:=first|assumption|omega) only [go_sem]
 rw [hF0,c232_60_wp,wp_seq',← hF9]
 simp (disch:=first|assumption|omega) only [go_sem]
 refine aBq fun b1 hb1=>?_
 obtain ⟨n1,n2,hb3⟩:=set_none hb1
 simp (disch:=first|assumption|omega) only [go_sem]
 rw [hF9,c232_59_wp,wp_seq',← hF8]
 simp (disch:=first|assumption|omega) only [go_sem]
 rw [hF8,c232_58_wp,wp_seq',← hF]
 by_cases hlt:0<l.length
 ·have hidx : l[0]? = some (l[0]'hlt) := List.getElem?_eq_getElem hlt
  obtain ⟨c, hc⟩ : ∃ c, l[0]'hlt = c := ⟨_, rfl⟩
  rw [hc] at hidx
  have hat:atP l 0=c.toNat:=by unfold atP;rw [hidx]
  have hlt':(0:Int)<l.length:=by omega
  rw [hat] at hq
  by_cases h36:(c.toNat:Int)=36
  ·rw [if_pos h36] at hq
   simp (disch:=first|assumption|omega) only [go_sem,hlt',hidx,h36,ASt.set_set]
   rw [hF]
   refine read1 l hl σ b0 b1 hb0 hb3 n2 1 (by omega) true q hq _ ?_ ?_ ?_ ?_<;>simp (disch:=first|assumption|omega) only [go_sem]
  ·rw [if_neg h36] at hq
   simp (disch:=first|assumption|omega) only [go_sem,hlt',hidx,h36]
   rw [hF]
   refine read1 l hl σ b0 b1 hb0 hb3 n2 0 (by omega) false q hq _ ?_ ?_ ?_ ?_<;>simp (disch:=first|assumption|omega) only [go_sem]
 ·have hat:atP l 0=0:=by unfold atP;rw [List.getElem?_eq_none (by omega)]
  have hlt':¬ (0:Int)<l.length:=by omega
  rw [hat,if_neg (by omega)] at hq
  simp (disch:=first|assumption|omega) only [go_sem,hlt']
  rw [hF]
  refine read1 l hl σ b0 b1 hb0 hb3 n2 0 (by omega) false q hq _ ?_ ?_ ?_ ?_<;>simp (disch:=first|assumption|omega) only [go_sem]
end Go.A
namespace Go.A
open Go.Proofs
/-! 215: tabular/addr.Parse -/
def c215_11:ACode := .seq (.ops [ oe 2 (.alloc [(.int .i64 0),(.int .i64 0),(.bool false),(.bool false)]),oq 3 (.mv (.v (.bool false)))]) (.seq (.ops [ oq 7 (.mv (.t 0)),oe 8 (.call 232 [(.t 7)]),oq 6 (.mv (.t 8)),oq 9 (.ext 0 (.t 6)),oq 10 (.ext 1 (.t 6)),oe 4 (.alloc [(.int .i64 0),(.int .i64 0),(.bool false),(.bool false)]),oz (.store 4 (.t 4) (.t 9)),oq 5 (.mv (.t 10))]) (.seq (.seq (.ops [ oq 11 (.mv (.t 5)),oq 12 (.bin .eql (.t 11) (.v (.int .i64 0))),oq 13 (.mv (.t 12)),⟨some 14,some (13,false),.q (.mv (.t 5)),[]⟩,⟨some 15,some (13,false),.q (.mv (.t 0)),[]⟩,⟨some 16,some (13,false),.q (.lenS (.t 15)),[]⟩,⟨some 17,some (13,false),.q (.bin .lss (.t 14) (.t 16)),[]⟩,oq 18 (.pick (.t 13) (.v (.bool true)) (.t 17))]) (.cond (.t 18) (.seq (.ops [ oq 19 (.build [(.int .i64 0),(.int .i64 0),(.bool false),(.bool false)] []),oz (.store 4 (.t 2) (.t 19)),oq 3 (.mv (.v (.bool false)))]) .ret) .skip)) (.seq (.ops [ oq 20 (.ld (some 4) (.t 4)),oz (.store 4 (.t 2) (.t 20)),oq 3 (.mv (.v (.bool true)))]) .ret)))
@[go_sem] def c215_11_wp:=wp_of c215_11.eq_1
def c215:AFn:=⟨21,[.c 2 (some 4),.t 3],c215_11⟩
theorem c215_ok:compF Tryz.prog Tryz.f215=some c215:=by kernel_rfl
theorem a215 {args:List AV} {σ:ASt} {R:AV->ASt->Prop} (hl:args.length<=21) (h:c215_11.wp Tryz.prog (RetQ [.c 2 (some 4),.t 3] R) (init args) σ):ACalls Tryz.prog 215 args σ R:=aFq Tryz.func215 c215_ok hl h
end Go.A
namespace Go.A
open Go.Proofs
def parseP (l:List UInt8):Ref×Bool:=if (readP l).2=0\/(readP l).2<l.length then (.zero,false) else ((readP l).1,true)
theorem parse_ok (l:List UInt8) (hl:l.length<=9223372036854775000):Pure Tryz.prog 215 [.str l] (.tuple [refAV (parseP l).1,.bool (parseP l).2]):=by
 intro σ
 obtain ⟨q,hq⟩:∃ q,parseP l=q:=⟨_,rfl⟩
 rw [hq]
 unfold parseP at hq
 obtain ⟨R,hR⟩:∃ R,readP l=R:=⟨_,rfl⟩
 rw [hR] at hq
 obtain ⟨⟨row,col,ar,ac⟩,n⟩:=R
 dsimp only at hq
 refine a215 (by simp) ?_
 simp (disch:=first|assumption|omega) only [go_sem]
 refine aBq fun b0 hb0=>?_
 simp (disch:=first|assumption|omega) only [go_sem]
 refine (read_ok l hl).use ?_
 rw [hR]
 simp (disch:=first|assumption|omega) only [go_sem,refAV]
 refine aBq fun b1 hb1=>?_
 obtain ⟨n1,n2,hb3⟩:=set_none hb1
 repeat' (first|(simp (disch:=first|assumption|omega) only [go_sem])|with_reducible refine gC_d (fun h=>?_) (fun h=>?_)|with_reducible refine gC_dn (fun h=>?_) (fun h=>?_)|with_reducible refine condC_d (fun h=>?_) (fun h=>?_)|with_reducible refine condC_n (fun h=>?_) (fun h=>?_)|with_reducible refine condC_b (fun h=>?_) (fun h=>?_)|with_reducible refine boxC_by ?_ fun b hb=>?_)
 all_goals first
  | (rw [if_pos (by omega)] at hq
     subst hq
     exact retC_by (by repeat' (first|exact Drop.refl _|with_reducible refine Drop.off ?_ (by assumption))) (.refl _) ⟨rfl,rfl⟩)
  | (rw [if_neg (by omega)] at hq
     subst hq
     exact retC_by (by repeat' (first|exact Drop.refl _|with_reducible refine Drop.off ?_ (by assumption))) (.refl _) ⟨rfl,rfl⟩)
def areaAV (a b:Ref):AV := .agg [.int .i64 a.row,.int .i64 a.col,.bool a.absRow,.bool a.absCol,.int .i64 b.row,.int .i64 b.col,.bool b.absRow,.bool b.absCol]
end Go.A
namespace Go.A
open Go.Proofs
/-! 24: tabular/tabularlaw01.Cut -/
def c24_9:ACode := .seq (.ops [ oq 4 (.mv (.v (.str [])))]) (.seq (.seq (.ops [ oq 5 (.mv (.t 0)),oq 6 (.lenS (.t 5)),oq 7 (.mv (.t 1)),oq 8 (.bin .gtr (.t 6) (.t 7))]) (.cond (.t 8) (.seq (.ops [ oq 9 (.mv (.t 0)),oq 10 (.mv (.t 1)),oq 11 (.slto (true,0) (.t 9) (.t 10)),oq 4 (.mv (.t 11))]) .ret) .skip)) (.seq (.ops [ oq 12 (.mv (.t 0)),oq 4 (.mv (.t 12))]) .ret))
@[go_sem] def c24_9_wp:=wp_of c24_9.eq_1
def c24:AFn:=⟨13,[.t 4],c24_9⟩
theorem c24_ok:compF Tryz.prog Tryz.f24=some c24:=by kernel_rfl
theorem a24 {args:List AV} {σ:ASt} {R:AV->ASt->Prop} (hl:args.length<=13) (h:c24_9.wp Tryz.prog (RetQ [.t 4] R) (init args) σ):ACalls Tryz.prog 24 args σ R:=aFq Tryz.func24 c24_ok hl h
end Go.A
namespace Go.A
open Go.Proofs
def greatC (c:UInt8):UInt8:=if 97<=c.toNat/\c.toNat<=122 then UInt8.ofNat (c.toNat-32) else c
def greatP (l:List UInt8):List UInt8:=l.map greatC
end Go.A
namespace Go.A
open Go.Proofs Go.Lib
def signsN (l:List UInt8):Nat:=runeCount ⟨⟨l⟩⟩
theorem signsN_le (l:List UInt8):signsN l<=l.length:=runeCount_le ⟨⟨l⟩⟩
def wordB (c:UInt8):Bool:=decide ((48<=c.toNat/\c.toNat<=57)\/(97<=c.toNat/\c.toNat<=122)\/(65<=c.toNat/\c.toNat<=90)\/c.toNat=95\/c.toNat=36\/c.toNat=46)
def digB (c:UInt8):Bool:=decide (48<=c.toNat/\c.toNat<=57)
def nameB (s:List UInt8):Bool:=decide (s ≠ []) && s.all (fun c=>wordB c && decide (c.toNat≠36)) && !((s.head?.map fun c=>digB c || decide (c.toNat=46)).getD false)
def cutDot:List UInt8->List UInt8×Option (List UInt8)
 | []=>([],none)
 | c::r=>if c.toNat=46 then ([],some r) else (c::(cutDot r).1,(cutDot r).2)
def numB (s:List UInt8):Bool:=
 match cutDot s with
 | (w,none)=>decide (w ≠ []) && w.all digB
 | (w,some p)=>decide (w ≠ []) && decide (p ≠ []) && decide (p.length<=4) && (w++p).all digB
def refB (s:List UInt8):Bool:=(parseP s).2
inductive Step where
 | bad (k:Nat)
 | blank
 | tok (kind:Int) (text:List UInt8) (n:Nat)
 deriving DecidableEq
def wordsS (r:List UInt8):Step:=
 let n:=runL wordB r
 let w:=r.take n
 if numB w then .tok 1 w n else if refB w then .tok 4 (greatP w) n else if nameB w then .tok 3 (greatP w) n else .bad 0
def quotedF:Nat->List UInt8->Nat->List UInt8->Step
 | 0,_,_,_ => .bad 0
 | k+1,r,p,acc=>
   if r = [] then .bad 0
   else if decodeL r=(65533,1) then .bad (1+p)
   else if (decodeL r).1≠34 then quotedF k (r.drop (decodeL r).2) (p+(decodeL r).2) (acc++encodeRune ((decodeL r).1:Int))
   else if r[1]? = some 34 then quotedF k (r.drop 2) (p+2) (acc ++ [34])
   else .tok 2 acc (p+2)
def errTexts:List (List UInt8) := [[35,68,73,86,47,48,33],[35,78,85,77,33],[35,86,65,76,85,69,33],[35,82,69,70,33],[35,78,47,65],[35,78,65,77,69,63],[35,67,89,67,76,69,33]]
def failS (r:List UInt8):List (List UInt8)->Step
 | [] => .bad 0
 | e::es=>if e.length<=r.length/\greatP (r.take e.length)=e then .tok 5 e e.length else failS r es
def alikeP (c:Int):List UInt8:=
 if c=8804 then [60,61] else if c=8805 then [62,61] else if c=8800 then [60,62] else if c=215 then [42] else if c=247 then [47] else if c=8722 then [45] else []
def twos:List (List UInt8) := [[60,61],[62,61],[60,62]]
def twoS (r:List UInt8):List (List UInt8)->Option (List UInt8)
 | []=>none
 | e::es=>if e.isPrefixOf r then some e else twoS r es
def opChars:List UInt8 := [43,45,42,47,94,38,61,60,62,37,40,41,58,44]
def opS (c:Int) (n:Nat) (r:List UInt8):Step:=
 if alikeP c ≠ [] then .tok 6 (alikeP c) n
 else match twoS r twos with
  | some e => .tok 6 e 2
  | none=>if (r.headD 0)∈opChars then .tok 6 (r.take 1) 1 else .bad 0
def stepP (r:List UInt8):Step:=
 let c:=(decodeL r).1
 if decodeL r=(65533,1) then .bad 0
 else if c=32\/c=9\/c=10 then .blank
 else if c<128/\wordB (UInt8.ofNat c)=true then wordsS r
 else if c=34 then quotedF (r.length) (r.drop 1) 0 []
 else if c=35 then failS r errTexts
 else opS c (decodeL r).2 r
structure Tok where
 kind:Int
 text:List UInt8
 at':Nat
 col:Nat
 deriving DecidableEq
def lexF:Nat->List UInt8->Nat->Nat->List Tok->List Tok×Nat×Int
 | 0,_,a,_,acc=>([],a,10)
 | k+1,r,a,c,acc=>
   if r = [] then (acc ++ [⟨0,[],a,c⟩],0,0)
   else match stepP r with
    | .bad j=>([],a+j,10)
    | .blank=>lexF k (r.drop 1) (a+1) (c+1) acc
    | .tok kind t n=>lexF k (r.drop n) (a+n) (c+signsN (r.take n)) (acc ++ [⟨kind,t,a,c⟩])
def lexP (s:List UInt8):List Tok×Nat×Int:=if 2000<s.length then ([],0,11) else lexF (s.length+1) s 0 0 []
def sgF:Nat->List UInt8->Option Nat
 | 0,_=>none
 | k+1,r=>if r = [] then some 0 else if decodeL r=(65533,1) then none else (sgF k (r.drop (decodeL r).2)).map (· + 1)
def tokAV (t:Tok):AV := .agg [.int .i64 t.kind,.str t.text,.int .i64 t.at',.int .i64 t.col]
end Go.A
namespace Go.A
open Go.Proofs Go.Lib
def accTab:List Int:=(List.range 16).flatMap fun i => [(accLo i:Int),(accHi i:Int)]
def U8 (σ:ASt):Prop:=σ 1=some (.fix (firstTab.map (AV.int .u8)))/\σ 2=some (.fix (accTab.map (AV.int .u8)))
theorem U8.of_eq {σ σ':ASt} (h:U8 σ) (h1:σ' 1=σ 1) (h2:σ' 2=σ 2):U8 σ':=⟨h1.trans h.1,h2.trans h.2⟩
theorem U8.set {σ:ASt} {b:Nat} {r:Option Role} (h:U8 σ) (hb:σ b=none):U8 (σ.set b r):=by
 refine h.of_eq (ASt.set_ne ?_) (ASt.set_ne ?_)<;>rintro rfl
 ·rw [h.1] at hb;cases hb
 ·rw [h.2] at hb;cases hb
theorem fix_ints {σ:ASt} {w:World} (hs:Sim σ w) {b:Nat} {k:IntKind} {zs:List Int} (h:σ b=some (.fix (zs.map (AV.int k)))):∀ j z,zs[j]? = some z->w.cell? ⟨b,j,none⟩=some (.int k z):=by
 intro j z hj
 obtain ⟨vs,h4,h5⟩:=(hs b _ h).1.vals
 have h6:=reps_ints h4
 subst h6
 have:=h5 j (Value.int k z) (by simp [hj])
 simpa using this
theorem u8_tabs {σ:ASt} {w:World} (hs:Sim σ w) (h:U8 σ):Utf8Tabs 1 2 w:=by
 refine ⟨fun c hc=>fix_ints hs h.1 c _ (by simp [firstTab,hc]),fun i hi=>?_⟩
 have key:∀ i,i<16->accTab[2*i]? = some (accLo i:Int)/\accTab[2*i+1]? = some (accHi i:Int):=by decide
 exact ⟨fix_ints hs h.2 _ _ (key i hi).1,fix_ints hs h.2 _ _ (key i hi).2⟩
theorem ACalls.of_below {P:Program} {σ:ASt} {f:FuncId} {args:List AV} {r:AV} {u:Value} (h:∀ w vs,Sim σ w->Reps σ w args vs->Calls P f ⟨vs⟩ w fun e w'=>e = .returned u/\RowKit.Below w.heap.size w w') (hr:∀ w,Rep σ w r u):ACalls P f args σ fun v σ'=>v=r/\σ'=σ:=
 ACalls.of_ext (fun w vs hs ha=>(h w vs hs ha).mono fun e w' ⟨he,hb⟩=>⟨he,Ext.of_below hb⟩) hr
theorem dec_ok {σ:ASt} (h:U8 σ) {l:List UInt8} (h0:l ≠ []):ACalls Tryz.prog 119 [.str l] σ fun v σ'=>v = .tuple [.int .i32 (decodeL l).1,.int .i64 (decodeL l).2]/\σ'=σ:=by
 refine ACalls.of_below (u := .tuple #[.int .i32 (decodeL l).1,.int .i64 (decodeL l).2]) (fun w vs hs ha=>?_) fun w => .tuple (.cons (.int _ _) (.cons (.int _ _) .nil))
 cases ha with
 | cons h1 h2=>
 cases h1;cases h2
 have:=Tryz.utf8_DecodeRuneInString ⟨⟨l⟩⟩ w (u8_tabs hs h)
 have e:decodeGo ⟨⟨l⟩⟩=decodeL l:=by
  unfold decodeGo decodeL
  rw [if_neg (by cases l;exact absurd rfl h0;simp [ByteArray.size])]
 rw [e] at this
 exact this
theorem count_ok (l:List UInt8) (hl:l.length<9223372036854775807):Pure Tryz.prog 159 [.str l] (.int .i64 (signsN l)):=by
 intro σ
 refine ACalls.of_ext (u := .int .i64 (signsN l)) (fun w vs hs ha=>?_) fun w => .int _ _
 cases ha with
 | cons h1 h2=>
 cases h1;cases h2
 refine (Tryz.utf8_RuneCountInString ⟨⟨l⟩⟩ w (by simpa [ByteArray.size] using hl)).mono ?_
 rintro e w' ⟨rfl,pos,rfl⟩
 exact ⟨rfl,Ext.alloc (Ext.refl w) _⟩
theorem runeLen_ok (r:Int):Pure Tryz.prog 196 [.int .i32 r] (.int .i64 (runeLen r)):=by
 intro σ
 refine ACalls.of_ext (u := .int .i64 (runeLen r)) (fun w vs hs ha=>?_) fun w => .int _ _
 cases ha with
 | cons h1 h2=>
 cases h1;cases h2
 exact (Tryz.utf8_RuneLen r w).mono fun e w' ⟨he,hw⟩=>⟨he,Ext.of_eq hw⟩
theorem prefix_ok (s p:List UInt8) (hs:s.length<=1000000000) (hp:p.length<=1000000000):Pure Tryz.prog 198 [.str s,.str p] (.bool (p.isPrefixOf s)):=by
 intro σ
 refine ACalls.of_ext (u := .bool (p.isPrefixOf s)) (fun w vs hs ha=>?_) fun w => .bool _
 cases ha with
 | cons h1 h2=>
 cases h2 with
 | cons h2 h3=>
 cases h1;cases h2;cases h3
 refine (Tryz.strings_HasPrefix ⟨⟨s⟩⟩ ⟨⟨p⟩⟩ w).mono fun e w' ⟨he,hw⟩=>⟨?_,Ext.of_eq hw⟩
 rw [he]
 rfl
theorem contains_ok (s:List UInt8) (c:UInt8):Pure Tryz.prog 199 [.str s,.str [c]] (.bool (decide (0<=indexByte s c))):=by
 intro σ
 refine ACalls.of_ext (u := .bool (decide (0<=indexByte s c))) (fun w vs hs ha=>?_) fun w => .bool _
 cases ha with
 | cons h1 h2=>
 cases h2 with
 | cons h2 h3=>
 cases h1;cases h2;cases h3
 exact (Tryz.strings_Contains_one ⟨⟨s⟩⟩ c w).mono fun e w' ⟨he,hw⟩=>⟨he,Ext.of_eq hw⟩
theorem index_ok (s:List UInt8) (c:UInt8):Pure Tryz.prog 190 [.str s,.str [c]] (.int .i64 (indexByte s c)):=by
 intro σ
 refine ACalls.of_ext (u := .int .i64 (indexByte s c)) (fun w vs hs ha=>?_) fun w => .int _ _
 cases ha with
 | cons h1 h2=>
 cases h2 with
 | cons h2 h3=>
 cases h1;cases h2;cases h3
 exact (Tryz.stringslite_Index_one ⟨⟨s⟩⟩ c w).mono fun e w' ⟨he,hw⟩=>⟨he,Ext.of_eq hw⟩
end Go.A
namespace Go.A
open Go.Proofs Go.Lib
theorem sgF_step {k:Nat} {r:List UInt8} (h0:r ≠ []) (hv:decodeL r≠(65533,1)):sgF (k+1) r=(sgF k (r.drop (decodeL r).2)).map (· + 1):=by
 rw [sgF,if_neg h0,if_neg hv]
theorem sgT_fuel:∀ (k m:Nat) (r:List UInt8),r.length<k->r.length<m->sgF k r=sgF m r
 | 0,_,r,h,_=>absurd h (Nat.not_lt_zero _)
 | _,0,r,_,h=>absurd h (Nat.not_lt_zero _)
 | k+1,m+1,r,h1,h2=>by
   rw [sgF,sgF]
   by_cases h0:r = []
   ·rw [if_pos h0,if_pos h0]
   ·rw [if_neg h0,if_neg h0]
    split
    ·rfl
    ·have hw:=decodeL_width r
     have hl:=List.length_pos_iff.2 h0
     rw [sgT_fuel k m _ (by rw [List.length_drop];omega) (by rw [List.length_drop];omega)]
def sgT (r:List UInt8):Option Nat:=sgF (r.length+1) r
theorem sgT_nil:sgT []=some 0:=rfl
theorem sgT_bad {r:List UInt8} (h0:r ≠ []) (hv:decodeL r=(65533,1)):sgT r=none:=by
 unfold sgT
 rw [sgF,if_neg h0,if_pos hv]
theorem sgT_step {r:List UInt8} (h0:r ≠ []) (hv:decodeL r≠(65533,1)):sgT r=(sgT (r.drop (decodeL r).2)).map (· + 1):=by
 unfold sgT
 rw [sgF_step h0 hv]
 have hw:=decodeL_width r
 have hl:=List.length_pos_iff.2 h0
 rw [sgT_fuel r.length ((r.drop (decodeL r).2).length+1) _ (by rw [List.length_drop];omega) (by omega)]
def sgAV (s:List UInt8):AV:=match sgT s with
 | some n => .tuple [.int .i64 n,.bool true]
 | none => .tuple [.int .i64 0,.bool false]
end Go.A
namespace Go.A
open Go.Proofs
/-! 62: tabular/deci.Parse -/
def c62_25:ACode := .seq (.ops [ oq 47 (.bin .lss (.t 46) (.t 45))]) (.seq (.cond (.t 47) .skip (.exit 0)) (.seq (.block 1 (.seq (.ops [ oq 48 (.ia 1 (.t 44) (.t 46)),oq 49 (.ld none (.t 48)),oq 11 (.mv (.t 49))]) (.seq (.seq (.ops [ oq 50 (.mv (.t 11)),oq 51 (.bin .lss (.t 50) (.v (.int .u8 48))),oq 52 (.mv (.t 51)),⟨some 53,some (52,false),.q (.mv (.t 11)),[]⟩,⟨some 54,some (52,false),.q (.bin .gtr (.t 53) (.v (.int .u8 57))),[]⟩,oq 55 (.pick (.t 52) (.v (.bool true)) (.t 54)),oq 56 (.mv (.t 55)),⟨some 57,some (56,false),.q (.mv (.t 9)),[]⟩,⟨some 58,some (56,false),.q (.bin .gtr (.t 57) (.v (.int .u64 99999999999999999))),[]⟩,oq 59 (.pick (.t 56) (.v (.bool true)) (.t 58))]) (.cond (.t 59) (.seq (.ops [ oq 2 (.mv (.v (.int .i64 0))),oq 3 (.mv (.v (.bool false)))]) .ret) .skip)) (.ops [ oq 60 (.mv (.t 9)),oq 61 (.bin .mul (.v (.int .u64 10)) (.t 60)),oq 62 (.mv (.t 11)),oq 63 (.bin .sub (.t 62) (.v (.int .u8 48))),oq 64 (.conv .u64 (.t 63)),oq 65 (.bin .add (.t 61) (.t 64)),oq 9 (.mv (.t 65))])))) (.ops [ oq 66 (.bin .add (.t 46) (.v (.int .i64 1))),oq 46 (.mv (.t 66))])))
def c62_32:ACode := .seq (.ops [ oq 9 (.mv (.v (.int .u64 0)))]) (.seq (.seq (.ops [ oq 37 (.mv (.t 6)),oq 38 (.mv (.t 7)),oq 39 (.bin .add (.t 37) (.t 38)),oq 40 (.mv (.t 7)),oq 41 (.lenS (.t 40)),oq 42 (.slfrom (true,0) (.v (.str [48,48,48,48])) (.t 41)),oq 43 (.bin .add (.t 39) (.t 42)),oe 44 (.s2b (.t 43)),oq 45 (.len (.t 44)),oq 46 (.mv (.v (.int .i64 0)))]) (.block 0 (.loop c62_25))) (.seq (.ops [ oq 67 (.mv (.t 5)),oq 68 (.mv (.t 9)),oe 69 (.call 106 [(.t 67),(.v (.int .u64 0)),(.t 68)]),oq 70 (.ext 0 (.t 69)),oq 71 (.ext 1 (.t 69)),oq 2 (.mv (.t 70)),oq 3 (.mv (.t 71))]) .ret))
def c62_36:ACode := .seq (.ops [ oq 2 (.mv (.v (.int .i64 0))),oq 3 (.mv (.v (.bool false)))]) (.seq (.ops [ oq 13 (.mv (.t 0)),oe 14 (.call 67 [(.t 13),(.v (.str [45]))]),oq 12 (.mv (.t 14)),oq 15 (.ext 0 (.t 12)),oq 16 (.ext 1 (.t 12)),oq 4 (.mv (.t 15)),oq 5 (.mv (.t 16))]) (.seq (.ops [ oq 18 (.mv (.t 4)),oe 19 (.call 105 [(.t 18),(.v (.str [46]))]),oq 17 (.mv (.t 19)),oq 20 (.ext 0 (.t 17)),oq 21 (.ext 1 (.t 17)),oq 22 (.ext 2 (.t 17)),oq 6 (.mv (.t 20)),oq 7 (.mv (.t 21)),oq 8 (.mv (.t 22))]) (.seq (.seq (.ops [ oq 23 (.mv (.t 6)),oq 24 (.bin .eql (.t 23) (.v (.str []))),oq 25 (.mv (.t 24)),⟨some 26,some (25,false),.q (.mv (.t 8)),[]⟩,⟨some 27,some (25,false),.q (.mv (.t 26)),[]⟩,⟨some 28,some (27,true),.q (.mv (.t 7)),[]⟩,⟨some 29,some (27,true),.q (.bin .eql (.t 28) (.v (.str []))),[]⟩,⟨some 30,some (27,true),.q (.mv (.t 29)),[]⟩,⟨some 31,some (30,false),.q (.mv (.t 7)),[]⟩,⟨some 32,some (30,false),.q (.lenS (.t 31)),[]⟩,⟨some 33,some (30,false),.q (.bin .gtr (.t 32) (.v (.int .i64 4))),[]⟩,⟨some 34,some (27,true),.q (.pick (.t 30) (.v (.bool true)) (.t 33)),[]⟩,⟨some 35,some (25,false),.q (.pick (.t 27) (.t 34) (.v (.bool false))),[]⟩,oq 36 (.pick (.t 25) (.v (.bool true)) (.t 35))]) (.cond (.t 36) (.seq (.ops [ oq 2 (.mv (.v (.int .i64 0))),oq 3 (.mv (.v (.bool false)))]) .ret) .skip)) c62_32)))
@[go_sem] def c62_25_wp:=wp_of c62_25.eq_1
@[go_sem] def c62_32_wp:=wp_of c62_32.eq_1
@[go_sem] def c62_36_wp:=wp_of c62_36.eq_1
def c62:AFn:=⟨72,[.t 2,.t 3],c62_36⟩
theorem c62_ok:compF Tryz.prog Tryz.f62=some c62:=by kernel_rfl
theorem a62 {args:List AV} {σ:ASt} {R:AV->ASt->Prop} (hl:args.length<=72) (h:c62_36.wp Tryz.prog (RetQ [.t 2,.t 3] R) (init args) σ):ACalls Tryz.prog 62 args σ R:=aFq Tryz.func62 c62_ok hl h
/-! 73: tabular/deci.Good -/
def c73_3:ACode := .seq (.ops [ oq 2 (.mv (.v (.bool false)))]) (.seq (.ops [ oq 3 (.mv (.t 0)),oq 4 (.bin .geq (.t 3) (.v (.int .i64 (-999999999999999999)))),oq 5 (.mv (.t 4)),⟨some 6,some (5,true),.q (.mv (.t 0)),[]⟩,⟨some 7,some (5,true),.q (.bin .leq (.t 6) (.v (.int .i64 999999999999999999))),[]⟩,oq 8 (.pick (.t 5) (.t 7) (.v (.bool false))),oq 2 (.mv (.t 8))]) .ret)
@[go_sem] def c73_3_wp:=wp_of c73_3.eq_1
def c73:AFn:=⟨9,[.t 2],c73_3⟩
theorem c73_ok:compF Tryz.prog Tryz.f73=some c73:=by kernel_rfl
theorem a73 {args:List AV} {σ:ASt} {R:AV->ASt->Prop} (hl:args.length<=9) (h:c73_3.wp Tryz.prog (RetQ [.t 2] R) (init args) σ):ACalls Tryz.prog 73 args σ R:=aFq Tryz.func73 c73_ok hl h
/-! 105: strings.Cut -/
def c105_3:ACode := .seq (.ops [ oq 4 (.mv (.v (.str []))),oq 5 (.mv (.v (.str []))),oq 6 (.mv (.v (.bool false)))]) (.seq (.ops [ oq 7 (.mv (.t 0)),oq 8 (.mv (.t 1)),oe 9 (.call 151 [(.t 7),(.t 8)]),oq 10 (.ext 0 (.t 9)),oq 11 (.ext 1 (.t 9)),oq 12 (.ext 2 (.t 9)),oq 4 (.mv (.t 10)),oq 5 (.mv (.t 11)),oq 6 (.mv (.t 12))]) .ret)
@[go_sem] def c105_3_wp:=wp_of c105_3.eq_1
def c105:AFn:=⟨13,[.t 4,.t 5,.t 6],c105_3⟩
theorem c105_ok:compF Tryz.prog Tryz.f105=some c105:=by kernel_rfl
theorem a105 {args:List AV} {σ:ASt} {R:AV->ASt->Prop} (hl:args.length<=13) (h:c105_3.wp Tryz.prog (RetQ [.t 4,.t 5,.t 6] R) (init args) σ):ACalls Tryz.prog 105 args σ R:=aFq Tryz.func105 c105_ok hl h
/-! 106: tabular/deci.made -/
def c106_15:ACode := .seq (.ops [ oq 6 (.mv (.v (.int .i64 0))),oq 7 (.mv (.v (.bool false)))]) (.seq (.seq (.ops [ oq 8 (.mv (.t 1)),oq 9 (.bin .gtr (.t 8) (.v (.int .u64 0))),oq 10 (.mv (.t 9)),⟨some 11,some (10,false),.q (.mv (.t 2)),[]⟩,⟨some 12,some (10,false),.q (.bin .gtr (.t 11) (.v (.int .u64 999999999999999999))),[]⟩,oq 13 (.pick (.t 10) (.v (.bool true)) (.t 12))]) (.cond (.t 13) (.seq (.ops [ oq 6 (.mv (.v (.int .i64 0))),oq 7 (.mv (.v (.bool false)))]) .ret) .skip)) (.seq (.seq (.ops [ oq 14 (.mv (.t 0))]) (.cond (.t 14) (.seq (.ops [ oq 15 (.mv (.t 2)),oq 16 (.conv .i64 (.t 15)),oq 17 (.un .neg (.t 16)),oq 6 (.mv (.t 17)),oq 7 (.mv (.v (.bool true)))]) .ret) .skip)) (.seq (.ops [ oq 18 (.mv (.t 2)),oq 19 (.conv .i64 (.t 18)),oq 6 (.mv (.t 19)),oq 7 (.mv (.v (.bool true)))]) .ret)))
@[go_sem] def c106_15_wp:=wp_of c106_15.eq_1
def c106:AFn:=⟨20,[.t 6,.t 7],c106_15⟩
theorem c106_ok:compF Tryz.prog Tryz.f106=some c106:=by kernel_rfl
theorem a106 {args:List AV} {σ:ASt} {R:AV->ASt->Prop} (hl:args.length<=20) (h:c106_15.wp Tryz.prog (RetQ [.t 6,.t 7] R) (init args) σ):ACalls Tryz.prog 106 args σ R:=aFq Tryz.func106 c106_ok hl h
/-! 121: (tabular/deci.Dec).Text -/
def c121_20:ACode := .seq (.ops [ oq 2 (.mv (.v (.str [])))]) (.seq (.ops [ oq 6 (.mv (.t 0)),oe 7 (.call 174 [(.t 6)]),oq 3 (.mv (.t 7))]) (.seq (.ops [ oq 8 (.mv (.t 3)),oq 9 (.bin .quo (.t 8) (.v (.int .u64 10000))),oe 10 (.call 175 [(.t 9),(.v (.int .i64 10))]),oq 4 (.mv (.t 10))]) (.seq (.seq (.ops [ oq 11 (.mv (.t 3)),oq 12 (.bin .rem (.t 11) (.v (.int .u64 10000))),oq 5 (.mv (.t 12))]) (.seq (.ops [ oq 13 (.mv (.t 5)),oq 14 (.bin .gtr (.t 13) (.v (.int .u64 0)))]) (.cond (.t 14) (.ops [ oq 15 (.mv (.t 4)),oq 16 (.mv (.t 5)),oq 17 (.bin .add (.v (.int .u64 10000)) (.t 16)),oe 18 (.call 175 [(.t 17),(.v (.int .i64 10))]),oq 19 (.slfrom (true,0) (.t 18) (.v (.int .i64 1))),oe 20 (.call 176 [(.t 19),(.v (.str [48]))]),oq 21 (.bin .add (.v (.str [46])) (.t 20)),oq 22 (.bin .add (.t 15) (.t 21)),oq 4 (.mv (.t 22))]) .skip))) (.seq (.seq (.ops [ oq 23 (.mv (.t 0)),oq 24 (.bin .lss (.t 23) (.v (.int .i64 0)))]) (.cond (.t 24) (.seq (.ops [ oq 25 (.mv (.t 4)),oq 26 (.bin .add (.v (.str [45])) (.t 25)),oq 2 (.mv (.t 26))]) .ret) .skip)) (.seq (.ops [ oq 27 (.mv (.t 4)),oq 2 (.mv (.t 27))]) .ret)))))
@[go_sem] def c121_20_wp:=wp_of c121_20.eq_1
def c121:AFn:=⟨28,[.t 2],c121_20⟩
theorem c121_ok:compF Tryz.prog Tryz.f121=some c121:=by kernel_rfl
theorem a121 {args:List AV} {σ:ASt} {R:AV->ASt->Prop} (hl:args.length<=28) (h:c121_20.wp Tryz.prog (RetQ [.t 2] R) (init args) σ):ACalls Tryz.prog 121 args σ R:=aFq Tryz.func121 c121_ok hl h
/-! 151: internal/stringslite.Cut -/
def c151_11:ACode := .seq (.ops [ oq 4 (.mv (.v (.str []))),oq 5 (.mv (.v (.str []))),oq 6 (.mv (.v (.bool false)))]) (.seq (.seq (.ops [ oq 8 (.mv (.t 0)),oq 9 (.mv (.t 1)),oe 10 (.call 190 [(.t 8),(.t 9)]),oq 7 (.mv (.t 10))]) (.seq (.ops [ oq 11 (.mv (.t 7)),oq 12 (.bin .geq (.t 11) (.v (.int .i64 0)))]) (.cond (.t 12) (.seq (.ops [ oq 13 (.mv (.t 0)),oq 14 (.mv (.t 7)),oq 15 (.slto (true,0) (.t 13) (.t 14)),oq 16 (.mv (.t 0)),oq 17 (.mv (.t 7)),oq 18 (.mv (.t 1)),oq 19 (.lenS (.t 18)),oq 20 (.bin .add (.t 17) (.t 19)),oq 21 (.slfrom (true,0) (.t 16) (.t 20)),oq 4 (.mv (.t 15)),oq 5 (.mv (.t 21)),oq 6 (.mv (.v (.bool true)))]) .ret) .skip))) (.seq (.ops [ oq 22 (.mv (.t 0)),oq 4 (.mv (.t 22)),oq 5 (.mv (.v (.str []))),oq 6 (.mv (.v (.bool false)))]) .ret))
@[go_sem] def c151_11_wp:=wp_of c151_11.eq_1
def c151:AFn:=⟨23,[.t 4,.t 5,.t 6],c151_11⟩
theorem c151_ok:compF Tryz.prog Tryz.f151=some c151:=by kernel_rfl
theorem a151 {args:List AV} {σ:ASt} {R:AV->ASt->Prop} (hl:args.length<=23) (h:c151_11.wp Tryz.prog (RetQ [.t 4,.t 5,.t 6] R) (init args) σ):ACalls Tryz.prog 151 args σ R:=aFq Tryz.func151 c151_ok hl h
/-! 174: tabular/deci.size -/
def c174_9:ACode := .seq (.ops [ oq 2 (.mv (.v (.int .u64 0)))]) (.seq (.seq (.ops [ oq 3 (.mv (.t 0)),oq 4 (.bin .lss (.t 3) (.v (.int .i64 0)))]) (.cond (.t 4) (.seq (.ops [ oq 5 (.mv (.t 0)),oq 6 (.un .neg (.t 5)),oq 7 (.conv .u64 (.t 6)),oq 2 (.mv (.t 7))]) .ret) .skip)) (.seq (.ops [ oq 8 (.mv (.t 0)),oq 9 (.conv .u64 (.t 8)),oq 2 (.mv (.t 9))]) .ret))
@[go_sem] def c174_9_wp:=wp_of c174_9.eq_1
def c174:AFn:=⟨10,[.t 2],c174_9⟩
theorem c174_ok:compF Tryz.prog Tryz.f174=some c174:=by kernel_rfl
theorem a174 {args:List AV} {σ:ASt} {R:AV->ASt->Prop} (hl:args.length<=10) (h:c174_9.wp Tryz.prog (RetQ [.t 2] R) (init args) σ):ACalls Tryz.prog 174 args σ R:=aFq Tryz.func174 c174_ok hl h
/-! 175: strconv.FormatUint -/
def c175_3:ACode := .seq (.ops [ oq 4 (.mv (.v (.str [])))]) (.seq (.ops [ oq 5 (.mv (.t 0)),oq 6 (.mv (.t 1)),oe 7 (.call 206 [(.t 5),(.t 6)]),oq 4 (.mv (.t 7))]) .ret)
@[go_sem] def c175_3_wp:=wp_of c175_3.eq_1
def c175:AFn:=⟨8,[.t 4],c175_3⟩
theorem c175_ok:compF Tryz.prog Tryz.f175=some c175:=by kernel_rfl
theorem a175 {args:List AV} {σ:ASt} {R:AV->ASt->Prop} (hl:args.length<=8) (h:c175_3.wp Tryz.prog (RetQ [.t 4] R) (init args) σ):ACalls Tryz.prog 175 args σ R:=aFq Tryz.func175 c175_ok hl h
/-! 178: (tabular/deci.Dec).Whole -/
def c178_3:ACode := .seq (.ops [ oq 2 (.mv (.v (.int .i64 0)))]) (.seq (.ops [ oq 3 (.mv (.t 0)),oq 4 (.bin .quo (.t 3) (.v (.int .i64 10000))),oq 2 (.mv (.t 4))]) .ret)
@[go_sem] def c178_3_wp:=wp_of c178_3.eq_1
def c178:AFn:=⟨5,[.t 2],c178_3⟩
theorem c178_ok:compF Tryz.prog Tryz.f178=some c178:=by kernel_rfl
theorem a178 {args:List AV} {σ:ASt} {R:AV->ASt->Prop} (hl:args.length<=5) (h:c178_3.wp Tryz.prog (RetQ [.t 2] R) (init args) σ):ACalls Tryz.prog 178 args σ R:=aFq Tryz.func178 c178_ok hl h
/-! 209: (tabular/deci.Dec).IsInt -/
def c209_3:ACode := .seq (.ops [ oq 2 (.mv (.v (.bool false)))]) (.seq (.ops [ oq 3 (.mv (.t 0)),oq 4 (.bin .rem (.t 3) (.v (.int .i64 10000))),oq 5 (.bin .eql (.t 4) (.v (.int .i64 0))),oq 2 (.mv (.t 5))]) .ret)
@[go_sem] def c209_3_wp:=wp_of c209_3.eq_1
def c209:AFn:=⟨6,[.t 2],c209_3⟩
theorem c209_ok:compF Tryz.prog Tryz.f209=some c209:=by kernel_rfl
theorem a209 {args:List AV} {σ:ASt} {R:AV->ASt->Prop} (hl:args.length<=6) (h:c209_3.wp Tryz.prog (RetQ [.t 2] R) (init args) σ):ACalls Tryz.prog 209 args σ R:=aFq Tryz.func209 c209_ok hl h
end Go.A
end
namespace Go.A
open Go.Proofs Go.Shelf Go.RowKit Go.Sort
set_option maxHeartbeats 4000000 in
theorem fmtU_small (u:Nat) (hu:u<100) (w:World):Calls Tryz.prog 206 #[.int .u64 u,.int .i64 10] w fun e w'=>e = .returned (.string ⟨(Lib.decDigits u).toArray⟩)/\Ext w w':=by
 have iu:(u:Int)<100:=by omega
 go_enter Tryz.func206,Tryz.ntmps206
 go_wp2_with (go_at_call 223;refine (Tryz.internal_strconv_small u hu _).mono ?_;rintro e w' ⟨rfl,rfl⟩)
 go_ret
 exact ⟨rfl,Ext.refl _⟩
set_option maxHeartbeats 12800000 in
theorem fmtU_big (u : Nat) (hu : 100 ≤ u) (hu64 : u < 18446744073709551616) (w : World) (htab : Lib.TabIs Tryz.prog w "internal/strconv.uint64pow10" .u64 Lib.pow10Tab) :
  Calls Tryz.prog 206 #[.int .u64 u,.int .i64 10] w fun e w'=>e = .returned (.string ⟨(Lib.decDigits u).toArray⟩)/\Ext w w':=by
 have hu1:1<=u:=by omega
 have hnd20:Lib.nDigits u<=20:=by have:=Lib.numDigits_eq u hu1 hu64;split at this<;>omega
 have hal:Tryz.prog.arrayLen 259=24:=by kernel_rfl
 have hsl:∀ W,(Instr.sliceAt 259 (.pointer (some ⟨w.heap.size,0,none⟩)) none (some (.int .i64 (Lib.nDigits u:Int))) none).run Tryz.prog W = .ok (.slice (some ⟨w.heap.size,0,none⟩) (Lib.nDigits u) 24) W:=fun W=>by
  rw [run_sliceAt_array_h W 259 ⟨w.heap.size,0,none⟩ (by kernel_rfl) .i64 (Lib.nDigits u:Int) (by omega) (by rw [hal];omega)]
  rw [hal]
  rfl
 have hH0:=Lib.holds_zero0 w 259 (Lib.nDigits u) (by omega)
 have hfmt:=Tryz.internal_strconv_formatBase10 w.heap.size 0 24 u (Array.replicate (Lib.nDigits u) 0) (w.alloc (.cells Lib.zeros24 259)) hH0 (by rw [Array.size_replicate];exact Lib.lt_pow_nDigits u) hu64 (by rw [Array.size_replicate];omega)
 rw [Array.size_replicate] at hfmt
 have HH0:=Lib.hid hH0
 have iu:(100:Int)<=(u:Int):=by omega
 clear hH0 hal
 go_enter Tryz.func206,Tryz.ntmps206
 go_wp2_with (first
  | (go_at_call 224;refine (Tryz.internal_strconv_numDigits u hu1 hu64 _ (Lib.tabIs_alloc htab _)).mono ?_;rintro e w' ⟨rfl,rfl⟩))
 go_at_call 225
 refine hfmt.mono ?_
 rintro e w' ⟨rfl,k,v',dk,rfl,hF⟩
 have hcv:(convert 90 9 (.slice (some ⟨w.heap.size,0,none⟩) (Lib.nDigits u) 24)).run Tryz.prog ((putRow (fun (b:UInt8)=>Value.int .u8 (b.toNat:Int)) (w.alloc (.cells Lib.zeros24 259)) w.heap.size 0 dk).drewN k) = .ok (.string ⟨(Lib.decDigits u).toArray⟩) ((putRow (fun (b:UInt8)=>Value.int .u8 (b.toNat:Int)) (w.alloc (.cells Lib.zeros24 259)) w.heap.size 0 dk).drewN k):=by
  have h:=run_convert_bytes_back (P:=Tryz.prog) ((putRow (fun (b:UInt8)=>Value.int .u8 (b.toNat:Int)) (w.alloc (.cells Lib.zeros24 259)) w.heap.size 0 dk).drewN k) 90 9 5 ⟨w.heap.size,0,none⟩ 24 (Lib.decDigits u) Tryz.underlying90 Tryz.underlying5 Tryz.underlying9 (fun j hj=>by
   rw [Lib.row_is_numeral hF j hj,Lib.add_plain,World.cell?_drewN]
   exact cell?_putRow (fun (b:UInt8)=>Value.int .u8 (b.toNat:Int)) _ w.heap.size 0 _ dk HH0.out (by rw [hF.size,Array.size_replicate]) j (by rw [hF.size];rw [Lib.decDigits_length] at hj;exact hj))
  rw [Lib.decDigits_length] at h
  exact h
 go_wp2
 go_ret
 obtain ⟨os,eo⟩:=Lib.fin_at w (.cells Lib.zeros24 259) dk k 0
 refine ⟨rfl,?_⟩
 rw [eo]
 exact ext_grow w k os
theorem ifmt_ok {σ:ASt} (h:Tab σ) {u:Nat} (hu:u<18446744073709551616):ACalls Tryz.prog 206 [.int .u64 u,.int .i64 10] σ fun v σ'=>v = .str (Lib.decDigits u)/\σ'=σ:=by
 refine ACalls.of_ext (u := .string ⟨(Lib.decDigits u).toArray⟩) (fun w vs hs ha=>?_) fun w => .str _
 cases ha with
 | cons h1 h2=>
 cases h2 with
 | cons h2 h3=>
 cases h1;cases h2;cases h3
 by_cases hs2:u<100
 ·exact fmtU_small u hs2 w
 ·exact fmtU_big u (by omega) hu w (tabIs_of hs (by kernel_rfl) h)
theorem fmt_ok {σ:ASt} (h:Tab σ) {u:Nat} (hu:u<18446744073709551616):ACalls Tryz.prog 175 [.int .u64 u,.int .i64 10] σ fun v σ'=>v = .str (Lib.decDigits u)/\σ'=σ:=by
 refine a175 (by simp) ?_
 simp (disch:=first|assumption|omega) only [go_sem,reduceCtorEq,Nat.reduceEqDiff,↓reduceIte]
 refine (ifmt_ok h hu).mono ?_
 rintro v σ' ⟨rfl,rfl⟩
 simp (disch:=first|assumption|omega) only [go_sem,↓reduceIte]
 exact retC_by (Drop.refl _) (.refl _) ⟨rfl,rfl⟩
theorem cutPrefix_ok (s p:List UInt8):Pure Tryz.prog 67 [.str s,.str p] (.tuple [.str (Lib.trimPrefix s p),.bool (Lib.hasPrefix s p)]):=by
 intro σ
 refine ACalls.of_ext (u := .tuple #[.string ⟨(Lib.trimPrefix s p).toArray⟩,.bool (Lib.hasPrefix s p)]) (fun w vs hs ha=>?_) fun w => .tuple (.cons (.str _) (.cons (.bool _) .nil))
 cases ha with
 | cons h1 h2=>
 cases h2 with
 | cons h2 h3=>
 cases h1;cases h2;cases h3
 exact (Tryz.strings_CutPrefix ⟨⟨s⟩⟩ ⟨⟨p⟩⟩ w).mono fun e w' ⟨he,hw⟩=>⟨he,Ext.of_eq hw⟩
theorem trimRight_ok (s:List UInt8) (c:UInt8) (hc:c.toNat<128) (hsl:s.length<=9223372036854775807):Pure Tryz.prog 176 [.str s,.str [c]] (.str (Lib.trimRightB s c)):=by
 intro σ
 refine ACalls.of_ext (u := .string ⟨(Lib.trimRightB s c).toArray⟩) (fun w vs hs ha=>?_) fun w => .str _
 cases ha with
 | cons h1 h2=>
 cases h2 with
 | cons h2 h3=>
 cases h1;cases h2;cases h3
 exact (Tryz.strings_TrimRight_one ⟨⟨s⟩⟩ c hc w (by simpa [ByteArray.size] using hsl)).mono fun e w' ⟨he,hw⟩=>⟨he,Ext.of_eq hw⟩
theorem sindex_ok (s:List UInt8) (c:UInt8):Pure Tryz.prog 190 [.str s,.str [c]] (.int .i64 (Lib.indexByte s c)):=by
 intro σ
 refine ACalls.of_ext (u := .int .i64 (Lib.indexByte s c)) (fun w vs hs ha=>?_) fun w => .int _ _
 cases ha with
 | cons h1 h2=>
 cases h2 with
 | cons h2 h3=>
 cases h1;cases h2;cases h3
 exact (Tryz.stringslite_Index_one ⟨⟨s⟩⟩ c w).mono fun e w' ⟨he,hw⟩=>⟨he,Ext.of_eq hw⟩
theorem cutc_ok (l:List UInt8) (c:UInt8) (hl:l.length<=1000000000):Pure Tryz.prog 105 [.str l,.str [c]] (.tuple [.str (Lib.cut l [c]).1,.str (Lib.cut l [c]).2.1,.bool (Lib.cut l [c]).2.2]):=by
 have h1:Pure Tryz.prog 151 [.str l,.str [c]] (.tuple [.str (Lib.cut l [c]).1,.str (Lib.cut l [c]).2.1,.bool (Lib.cut l [c]).2.2]):=by
  intro σ
  have hi:=sindex_ok l c
  have hr:=Lib.index_room l [c]
  unfold Lib.cut
  rw [Lib.index_one] at hr ⊢
  have hg:=Lib.indexByte_ge l c
  refine a151 (by simp) ?_
  by_cases h0:0<=Lib.indexByte l c
  ·obtain ⟨i,e⟩:∃ i:Nat,Lib.indexByte l c=i:=⟨(Lib.indexByte l c).toNat,by omega⟩
   rw [e] at hi hr ⊢
   have hr:=hr (by omega)
   simp only [List.length_cons,List.length_nil] at hr
   rw [if_pos (by omega)]
   have e1:(0:Int)<=i:=by omega
   have e2:((i:Int)+1).toNat=i+1:=by omega
   have e3:(i:Int)<=l.length:=by omega
   have e4:(i:Int)+1<=l.length:=by omega
   simp (disch:=first|assumption|omega) only [go_sem,reduceCtorEq,Nat.reduceEqDiff,↓reduceIte]
   refine hi.use ?_
   simp (disch:=first|assumption|omega) only [go_sem,reduceCtorEq,Nat.reduceEqDiff,↓reduceIte,e1,e2,List.take_length]
   exact retC_by (by repeat' (first|exact Drop.refl _|with_reducible refine Drop.off ?_ (by assumption))) (.refl _) ⟨rfl,rfl⟩
  ·have e:Lib.indexByte l c = -1:=by omega
   rw [e] at hi ⊢
   rw [if_neg (by omega)]
   simp (disch:=first|assumption|omega) only [go_sem,reduceCtorEq,Nat.reduceEqDiff,↓reduceIte]
   refine hi.use ?_
   simp (disch:=first|assumption|omega) only [go_sem,reduceCtorEq,Nat.reduceEqDiff,Int.reduceLE,↓reduceIte,Int.reduceNeg]
   exact retC_by (by repeat' (first|exact Drop.refl _|with_reducible refine Drop.off ?_ (by assumption))) (.refl _) ⟨rfl,rfl⟩
 intro σ
 refine a105 (by simp) ?_
 simp (disch:=first|assumption|omega) only [go_sem,reduceCtorEq,Nat.reduceEqDiff,↓reduceIte]
 refine h1.use ?_
 simp (disch:=first|assumption|omega) only [go_sem,Nat.reduceEqDiff,↓reduceIte]
 exact retC_by (by repeat' (first|exact Drop.refl _|with_reducible refine Drop.off ?_ (by assumption))) (.refl _) ⟨rfl,rfl⟩
end Go.A
section
attribute [local go_sem] reduceCtorEq Nat.reduceEqDiff Nat.reduceAdd Nat.reduceSub Nat.reduceMul Nat.reduceLeDiff Int.reduceLT Int.reduceLE Int.reduceEq Int.reduceNeg Int.reduceAdd Int.reduceSub Int.reduceMul true_imp_iff forall_const Nat.mul_one Int.reduceToNat Nat.reducePow Int.reducePow Bool.true_and Bool.false_and Bool.and_false
attribute [local go_sem ↓] reduceIte
namespace Go.A
open Go.Proofs
def resAV (o:Option Int):AV := .tuple [.int .i64 (o.getD 0),.bool o.isSome]
theorem size_ok (a:Int) (h0 : -9223372036854775808<=a) (h1:a<=9223372036854775807):Pure Tryz.prog 174 [.int .i64 a] (.int .u64 (a.natAbs:Nat)):=by
 intro σ
 refine a174 (by simp) ?_
 by_cases h:a<0
 ·have e:IntKind.u64.wrap (IntKind.i64.wrap (0-a))=((a.natAbs:Nat):Int):=by rw [IntKind.wrap_u64,IntKind.wrap_i64];omega
  simp (disch:=first|assumption|omega) only [go_sem,h,e]
  exact retC_by (by repeat' (first|exact Drop.refl _|with_reducible refine Drop.off ?_ (by assumption))) (.refl _) ⟨rfl,rfl⟩
 ·have e:IntKind.u64.wrap a=((a.natAbs:Nat):Int):=by rw [IntKind.wrap_u64];omega
  simp (disch:=first|assumption|omega) only [go_sem,h,e]
  exact retC_by (by repeat' (first|exact Drop.refl _|with_reducible refine Drop.off ?_ (by assumption))) (.refl _) ⟨rfl,rfl⟩
theorem made_ok (m:Bool) (lo:Nat) (h:lo<18446744073709551616):Pure Tryz.prog 106 [.bool m,.int .u64 0,.int .u64 lo] (resAV (madeP m lo)):=by
 intro σ
 refine a106 (by simp) ?_
 unfold madeP
 by_cases hm:lo<=999999999999999999
 ·have g1:¬ (999999999999999999:Int)<lo:=by omega
  have e1:IntKind.i64.wrap (lo:Int)=lo:=by rw [IntKind.wrap_i64];omega
  have e2:IntKind.i64.wrap (-(lo:Int)) = -lo:=by rw [IntKind.wrap_i64];omega
  rw [if_pos hm]
  cases m
  ·simp (disch:=first|assumption|omega) only [go_sem,g1,e1]
   exact retC_by (by repeat' (first|exact Drop.refl _|with_reducible refine Drop.off ?_ (by assumption))) (.refl _) ⟨rfl,rfl⟩
  ·simp (disch:=first|assumption|omega) only [go_sem,g1,e1]
   refine retC_by (by repeat' (first|exact Drop.refl _|with_reducible refine Drop.off ?_ (by assumption))) (.refl _) ⟨?_,rfl⟩
   rw [show (0:Int)-lo = -lo by omega]
   rfl
 ·have g1:(999999999999999999:Int)<lo:=by omega
  rw [if_neg hm]
  simp (disch:=first|assumption|omega) only [go_sem,g1]
  exact retC_by (by repeat' (first|exact Drop.refl _|with_reducible refine Drop.off ?_ (by assumption))) (.refl _) ⟨rfl,rfl⟩
theorem dgood_ok (a:Int):Pure Tryz.prog 73 [.int .i64 a] (.bool (decide (a.natAbs<=999999999999999999))):=by
 intro σ
 refine a73 (by simp) ?_
 repeat' (first|(simp (disch:=first|assumption|omega) only [go_sem])|with_reducible refine gC_d (fun h=>?_) (fun h=>?_)|with_reducible refine gC_dn (fun h=>?_) (fun h=>?_)|with_reducible refine condC_d (fun h=>?_) (fun h=>?_)|with_reducible refine condC_n (fun h=>?_) (fun h=>?_)|with_reducible refine condC_b (fun h=>?_) (fun h=>?_)|with_reducible refine boxC_by ?_ fun b hb=>?_)
 all_goals (refine retC_by (by repeat' (first|exact Drop.refl _|with_reducible refine Drop.off ?_ (by assumption))) (.refl _) ⟨?_,rfl⟩)
 ·have e:decide (a<=999999999999999999)=decide (a.natAbs<=999999999999999999):=decide_eq_decide.2 (by omega)
  rw [<-e];rfl
 ·rfl
end Go.A
namespace Go.A
open Go.Proofs
theorem dtext_ok {σ:ASt} (h:Tab σ) {a:Int} (ha:a.natAbs<=999999999999999999):ACalls Tryz.prog 121 [.int .i64 a] σ fun v σ'=>v = .str (textD a)/\σ'=σ:=by
 have hS:=size_ok a (by omega) (by omega)
 obtain ⟨T,hT⟩:∃ T,textD a=T:=⟨_,rfl⟩
 rw [hT]
 unfold textD placesP at hT
 obtain ⟨s,hs⟩:∃ s,a.natAbs=s:=⟨_,rfl⟩
 rw [hs] at hS hT ha
 have hd:(s:Int).tdiv 10000=((s / 10000:Nat):Int):=by rw [Int.tdiv_eq_ediv_of_nonneg (by omega)];rfl
 have hm:(s:Int).tmod 10000=((s % 10000:Nat):Int):=by rw [Int.tmod_eq_emod_of_nonneg (by omega)];rfl
 have hp:s % 10000<10000:=Nat.mod_lt _ (by omega)
 have hw:s / 10000<=99999999999999:=by omega
 obtain ⟨p,hpp⟩:∃ p,s % 10000=p:=⟨_,rfl⟩
 obtain ⟨q,hqq⟩:∃ q,s / 10000=q:=⟨_,rfl⟩
 rw [hpp] at hp hm hT
 rw [hqq] at hd hw hT
 have hqw:IntKind.u64.wrap (q:Int)=q:=by rw [IntKind.wrap_u64];omega
 refine a121 (by simp) ?_
 simp (disch:=first|assumption|omega) only [go_sem]
 refine hS.use ?_
 simp (disch:=first|assumption|omega) only [go_sem,hd,hqw]
 refine (fmt_ok h (u:=q) (by omega)).mono ?_
 rintro v σ' ⟨rfl,rfl⟩
 simp (disch:=first|assumption|omega) only [go_sem,hm]
 have hql:(Lib.decDigits q).length<=15:=dd_len 14 q (by omega)
 by_cases h0:p=0
 ·subst h0
  rw [if_pos rfl,List.append_nil] at hT
  have g0:¬ (0:Int)<((0:Nat):Int):=by omega
  simp (disch:=first|assumption|omega) only [go_sem]
  by_cases hn:a<0
  ·have e1:binS .add [45] (Lib.decDigits q)=some (.str T):=by rw [binS_add (by simp;omega),← hT,if_pos hn]
   simp (disch:=first|assumption|omega) only [go_sem,hn,e1]
   exact retC_by (by repeat' (first|exact Drop.refl _|with_reducible refine Drop.off ?_ (by assumption))) (.refl _) ⟨rfl,rfl⟩
  ·rw [if_neg hn,List.nil_append] at hT
   subst hT
   simp (disch:=first|assumption|omega) only [go_sem,hn]
   exact retC_by (by repeat' (first|exact Drop.refl _|with_reducible refine Drop.off ?_ (by assumption))) (.refl _) ⟨rfl,rfl⟩
 ·rw [if_neg h0] at hT
  have g0:(0:Int)<(p:Int):=by omega
  have hDl:(Lib.decDigits (10000+p)).length<=5:=dd_len 4 _ (by omega)
  have hD1:1<=(Lib.decDigits (10000+p)).length:=List.length_pos_iff.2 (dd_len_pos _)
  have hF:=fmt_ok h (u:=10000+p) (by omega)
  rw [show (((10000+p:Nat):Int))=(10000:Int)+p by omega] at hF
  have htl:(Lib.decDigits (10000+p)).tail.length<=4:=by rw [List.length_tail];omega
  rw [<-List.drop_one] at hT htl
  generalize Lib.decDigits (10000+p)=D at *
  have hR:=trimRight_ok (D.drop 1) 48 (by decide) (by omega)
  have hRl:(Lib.trimRightB (D.drop 1) 48).length<=4:=by
   have:=congrArg List.length (trim_back 48 (D.drop 1))
   rw [List.length_append] at this
   omega
  generalize Lib.trimRightB (D.drop 1) 48=X at *
  have e1:binS .add [46] X=some (.str (46::X)):=binS_add (by simp;omega)
  have e2:binS .add (Lib.decDigits q) (46::X)=some (.str (Lib.decDigits q++46::X)):=binS_add (by simp;omega)
  have g5:(1:Int)<=D.length:=by omega
  simp (disch:=first|assumption|omega) only [go_sem,g0]
  refine hF.mono ?_
  rintro v σ' ⟨rfl,rfl⟩
  simp (disch:=first|assumption|omega) only [go_sem,List.take_length]
  refine hR.use ?_
  simp (disch:=first|assumption|omega) only [go_sem,e1,e2]
  by_cases hn:a<0
  ·have e3:binS .add [45] (Lib.decDigits q++46::X)=some (.str T):=by rw [binS_add (by simp;omega),← hT,if_pos hn]
   simp (disch:=first|assumption|omega) only [go_sem,hn,e3]
   exact retC_by (by repeat' (first|exact Drop.refl _|with_reducible refine Drop.off ?_ (by assumption))) (.refl _) ⟨rfl,rfl⟩
  ·rw [if_neg hn,List.nil_append] at hT
   subst hT
   simp (disch:=first|assumption|omega) only [go_sem,hn]
   exact retC_by (by repeat' (first|exact Drop.refl _|with_reducible refine Drop.off ?_ (by assumption))) (.refl _) ⟨rfl,rfl⟩
end Go.A
namespace Go.A
open Go.Proofs
theorem prefix_minus (s:List UInt8):Lib.hasPrefix s [45]=decide (s.head? = some 45):=by
 unfold Lib.hasPrefix
 cases s with
 | nil=>rfl
 | cons c l=>
   simp only [List.isPrefixOf,Bool.and_true,List.head?_cons,Option.some.injEq]
   by_cases h:c=45
   ·subst h;rfl
   ·have h1:(45==c)=false:=by simpa using fun e=>h e.symm
    rw [h1];simp [h]
theorem trim_minus (s:List UInt8):Lib.trimPrefix s [45]=if s.head? = some 45 then s.drop 1 else s:=by
 unfold Lib.trimPrefix
 rw [prefix_minus]
 by_cases h:s.head? = some 45
 ·simp [h]
 ·simp [h]
theorem cut_len (l:List UInt8) (c:UInt8):(Lib.cut l [c]).1.length+(Lib.cut l [c]).2.1.length<=l.length:=by
 unfold Lib.cut
 split
 ·have:=Lib.index_room l [c] (by assumption)
  simp at this ⊢
  omega
 ·simp
set_option maxHeartbeats 1000000 in
theorem dparse_ok (s:List UInt8) (hs:s.length<=100000):Pure Tryz.prog 62 [.str s] (resAV (parseD s)):=by
 intro σ
 have hP:=cutPrefix_ok s [45]
 rw [prefix_minus,trim_minus] at hP
 obtain ⟨R,hR⟩:∃ R,parseD s=R:=⟨_,rfl⟩
 rw [hR]
 unfold parseD at hR
 dsimp only at hR
 generalize hm:decide (s.head? = some 45)=minus at *
 have hbl:(if s.head? = some 45 then s.drop 1 else s).length<=100000:=by
  split
  ·rw [List.length_drop];omega
  ·exact hs
 generalize (if s.head? = some 45 then s.drop 1 else s)=body at *
 have hC:=cutc_ok body 46 (by omega)
 have hCl:=cut_len body 46
 have hnf:(Lib.cut body [46]).2.2=false->(Lib.cut body [46]).2.1 = []:=by
  unfold Lib.cut
  split<;>simp
 generalize (Lib.cut body [46]).1=whole at *
 generalize (Lib.cut body [46]).2.1=part at *
 generalize (Lib.cut body [46]).2.2=dot at *
 unfold parseQ at hR
 obtain ⟨F,hF⟩:∃ F,F=ACode.wp Tryz.prog c62_32:=⟨_,rfl⟩
 have fin:∀ (a:AFr),part.length<=4->(accP 0 (whole++part++List.replicate (4-part.length) 48)).bind (madeP minus)=R->(a 5 = .bool minus/\a 6 = .str whole/\a 7 = .str part)->F (RetQ [.t 2,.t 3] fun v σ'=>v=resAV R/\σ'=σ) a σ:=by
  intro a hp4 hacc hf
  rw [hF]
  have hl2:whole.length+part.length<=9223372036854775807:=by omega
  have g4:(part.length:Int)<=4:=by omega
  have e0:([48,48,48,48]:List UInt8).drop part.length=List.replicate (4-part.length) 48:=by
   have:part.length=0\/part.length=1\/part.length=2\/part.length=3\/part.length=4:=by omega
   rcases this with h|h|h|h|h<;>rw [h]<;>rfl
  have e1:binS .add (whole++part) (List.replicate (4-part.length) 48)=some (.str (whole++part++List.replicate (4-part.length) 48)):=binS_add (by simp;omega)
  obtain ⟨M,hM⟩:∃ M,whole++part++List.replicate (4-part.length) 48=M:=⟨_,rfl⟩
  rw [hM] at hacc e1
  have hMl:M.length<=1000000:=by rw [<-hM];simp;omega
  simp (disch:=first|assumption|omega|(simp only [List.length_append,List.length_cons,List.length_nil];omega)) only [go_sem,hf,e0,e1]
  refine s2b_shr ?_
  simp (disch:=first|assumption|omega|(simp only [List.length_append,List.length_cons,List.length_nil];omega)) only [go_sem]
  refine wLq (fun (i:Nat) a σ'=>i<=M.length/\(∃ n:Nat,n<=999999999999999999/\accP 0 M=accP n (M.drop i)/\a 9 = .int .u64 n)/\(a 5 = .bool minus/\a 44 = .sl .shr (bytesAV M)/\a 45 = .int .i64 M.length/\a 46 = .int .i64 i)/\σ'=σ) (fun i=>M.length-i) 0 ⟨Nat.zero_le _,⟨0,by omega,rfl,?_⟩,?_,rfl⟩ ?_
  ·simp (disch:=first|assumption|omega|(simp only [List.length_append,List.length_cons,List.length_nil];omega)) only [go_sem]
  ·simp (disch:=first|assumption|omega|(simp only [List.length_append,List.length_cons,List.length_nil];omega)) only [go_sem,hf]
  rintro i a σ1 ⟨hi,⟨n,hn,hac,hf9⟩,hf,rfl⟩
  rw [hac] at hacc
  by_cases hlt:i<M.length
  ·have hidx : M[i]? = some (M[i]'hlt) := List.getElem?_eq_getElem hlt
   rw [List.drop_eq_getElem_cons hlt] at hac hacc
   obtain ⟨c, hc⟩ : ∃ c, M[i]'hlt = c := ⟨_, rfl⟩
   rw [hc] at hidx hac hacc
   have hlt':(i:Int)<M.length:=by omega
   have hcb:c.toNat<256:=c.toNat_lt
   rw [accP] at hac hacc
   by_cases h1:c.toNat<48
   ·have h1':(c.toNat:Int)<48:=by omega
    rw [if_pos (by omega)] at hacc
    subst hacc
    simp (disch:=first|assumption|omega|(simp only [List.length_append,List.length_cons,List.length_nil];omega)) only [go_sem,hf,hlt',hidx,h1']
    exact retC_by (by repeat' (first|exact Drop.refl _|with_reducible refine Drop.off ?_ (by assumption))) (.refl _) ⟨rfl,rfl⟩
   have h1':¬ (c.toNat:Int)<48:=by omega
   by_cases h2:57<c.toNat
   ·have h2':(57:Int)<c.toNat:=by omega
    rw [if_pos (by omega)] at hacc
    subst hacc
    simp (disch:=first|assumption|omega|(simp only [List.length_append,List.length_cons,List.length_nil];omega)) only [go_sem,hf,hlt',hidx,h1',h2']
    exact retC_by (by repeat' (first|exact Drop.refl _|with_reducible refine Drop.off ?_ (by assumption))) (.refl _) ⟨rfl,rfl⟩
   have h2':¬ (57:Int)<c.toNat:=by omega
   by_cases h3:99999999999999999<n
   ·have h3':(99999999999999999:Int)<n:=by omega
    rw [if_pos (by omega)] at hacc
    subst hacc
    simp (disch:=first|assumption|omega|(simp only [List.length_append,List.length_cons,List.length_nil];omega)) only [go_sem,hf,hf9,hlt',hidx,h1',h2',h3']
    exact retC_by (by repeat' (first|exact Drop.refl _|with_reducible refine Drop.off ?_ (by assumption))) (.refl _) ⟨rfl,rfl⟩
   have h3':¬ (99999999999999999:Int)<n:=by omega
   rw [if_neg (by omega)] at hac hacc
   obtain ⟨n2,hn2⟩:∃ n2:Nat,10*n+(c.toNat-48)=n2:=⟨_,rfl⟩
   rw [hn2] at hac hacc
   have e2:10*(n:Int)+((c.toNat:Int)-48)=n2:=by omega
   simp (disch:=first|assumption|omega|(simp only [List.length_append,List.length_cons,List.length_nil];omega)) only [go_sem,hf,hf9,hlt',hidx,h1',h2',h3',e2]
   exact ⟨i+1,by omega,by omega,⟨n2,by omega,hac,rfl⟩,rfl⟩
  ·have hlt':¬ (i:Int)<M.length:=by omega
   rw [List.drop_eq_nil_of_le (by omega),accP,Option.bind_some] at hacc
   subst hacc
   have hMd:=made_ok minus n (by omega)
   simp (disch:=first|assumption|omega|(simp only [List.length_append,List.length_cons,List.length_nil];omega)) only [go_sem,hf,hf9,hlt']
   refine hMd.use ?_
   simp only [resAV]
   simp (disch:=first|assumption|omega|(simp only [List.length_append,List.length_cons,List.length_nil];omega)) only [go_sem]
   exact retC_by (by repeat' (first|exact Drop.refl _|with_reducible refine Drop.off ?_ (by assumption))) (.refl _) ⟨rfl,rfl⟩
 refine a62 (by simp) ?_
 simp (disch:=first|assumption|omega|(simp only [List.length_append,List.length_cons,List.length_nil];omega)) only [go_sem]
 refine hP.use ?_
 simp (disch:=first|assumption|omega|(simp only [List.length_append,List.length_cons,List.length_nil];omega)) only [go_sem]
 refine hC.use ?_
 by_cases hw:whole = []
 ·subst hw
  rw [if_pos (.inl rfl)] at hR
  subst hR
  simp (disch:=first|assumption|omega|(simp only [List.length_append,List.length_cons,List.length_nil];omega)) only [go_sem,←hF]
  exact retC_by (by repeat' (first|exact Drop.refl _|with_reducible refine Drop.off ?_ (by assumption))) (.refl _) ⟨rfl,rfl⟩
 cases dot with
 | false=>
   have hp:=hnf rfl
   subst hp
   rw [if_neg (by rintro (h|⟨h,_⟩)<;>contradiction)] at hR
   simp (disch:=first|assumption|omega|(simp only [List.length_append,List.length_cons,List.length_nil];omega)) only [go_sem,hw,←hF]
   refine fin _ (by simp) hR ?_
   simp (disch:=first|assumption|omega|(simp only [List.length_append,List.length_cons,List.length_nil];omega)) only [go_sem]
 | true=>
   by_cases hp:part = []
   ·subst hp
    rw [if_pos (.inr ⟨rfl,.inl rfl⟩)] at hR
    subst hR
    simp (disch:=first|assumption|omega|(simp only [List.length_append,List.length_cons,List.length_nil];omega)) only [go_sem,hw,←hF]
    exact retC_by (by repeat' (first|exact Drop.refl _|with_reducible refine Drop.off ?_ (by assumption))) (.refl _) ⟨rfl,rfl⟩
   by_cases h4:4<part.length
   ·have h4':(4:Int)<part.length:=by omega
    rw [if_pos (.inr ⟨rfl,.inr h4⟩)] at hR
    subst hR
    simp (disch:=first|assumption|omega|(simp only [List.length_append,List.length_cons,List.length_nil];omega)) only [go_sem,hw,hp,h4',←hF]
    exact retC_by (by repeat' (first|exact Drop.refl _|with_reducible refine Drop.off ?_ (by assumption))) (.refl _) ⟨rfl,rfl⟩
   ·have h4':¬ (4:Int)<part.length:=by omega
    rw [if_neg (by rintro (h|⟨_,h|h⟩)<;>contradiction)] at hR
    simp (disch:=first|assumption|omega|(simp only [List.length_append,List.length_cons,List.length_nil];omega)) only [go_sem,hw,hp,h4',←hF]
    refine fin _ (by omega) hR ?_
    simp (disch:=first|assumption|omega|(simp only [List.length_append,List.length_cons,List.length_nil];omega)) only [go_sem]
theorem textD_len {a:Int} (ha:a.natAbs<=999999999999999999):(textD a).length<=100:=by
 have h1:(Lib.decDigits (a.natAbs / 10000)).length<=15:=dd_len 14 _ (by omega)
 have h2:(placesP (a.natAbs % 10000)).length<=10:=by
  unfold placesP
  split
  ·simp
  ·rw [dd_four (by omega)]
   have:=congrArg List.length (trim_back 48 (fourP (a.natAbs % 10000)))
   rw [List.length_append] at this
   have e4:(fourP (a.natAbs % 10000)).length=4:=rfl
   simp
   omega
 unfold textD
 simp only [List.length_append]
 split<;>simp<;>omega
theorem whole_ok {a:Int} (ha:a.natAbs<=999999999999999999):Pure Tryz.prog 178 [.int .i64 a] (.int .i64 (a.tdiv 10000)):=by
 intro σ
 have hqb:(a.tdiv 10000).natAbs<=a.natAbs:=by rw [Int.natAbs_tdiv];exact Nat.div_le_self _ _
 have e:IntKind.i64.wrap (a.tdiv 10000)=a.tdiv 10000:=by rw [IntKind.wrap_i64];omega
 refine a178 (by simp) ?_
 simp (disch:=first|assumption|omega) only [go_sem,e]
 exact retC_by (by repeat' (first|exact Drop.refl _|with_reducible refine Drop.off ?_ (by assumption))) (.refl _) ⟨rfl,rfl⟩
theorem isInt_ok (a:Int):Pure Tryz.prog 209 [.int .i64 a] (.bool (decide (a.tmod 10000=0))):=by
 intro σ
 refine a209 (by simp) ?_
 simp (disch:=first|assumption|omega) only [go_sem]
 exact retC_by (by repeat' (first|exact Drop.refl _|with_reducible refine Drop.off ?_ (by assumption))) (.refl _) ⟨rfl,rfl⟩
theorem lcut_ok (s:List UInt8) (n:Nat):Pure Tryz.prog 24 [.str s,.int .i64 n] (.str (s.take n)):=by
 intro σ
 refine a24 (by simp) ?_
 by_cases h:n<s.length
 ·have h':(n:Int)<s.length:=by omega
  have g0:(0:Int)<=n:=by omega
  have g1:(n:Int)<=s.length:=by omega
  simp (disch:=first|assumption|omega) only [go_sem,h']
  exact retC_by (by repeat' (first|exact Drop.refl _|with_reducible refine Drop.off ?_ (by assumption))) (.refl _) ⟨rfl,rfl⟩
 ·have h':¬ (n:Int)<s.length:=by omega
  rw [List.take_of_length_le (by omega)]
  simp (disch:=first|assumption|omega) only [go_sem,h']
  exact retC_by (by repeat' (first|exact Drop.refl _|with_reducible refine Drop.off ?_ (by assumption))) (.refl _) ⟨rfl,rfl⟩
end Go.A
namespace Go.A
open Go.Proofs
/-! 30: tabular/value.Failed -/
def c30_5:ACode := .seq (.ops [ oq 2 (.mv (.v (.int .i64 0))),oq 3 (.mv (.v (.bool false)))]) (.seq (.ops [ oq 7 (.mv (.t 0)),oq 8 (.ta 77 (.int .i64 0) true (.t 7)),oq 6 (.mv (.t 8)),oq 9 (.ext 0 (.t 6)),oq 10 (.ext 1 (.t 6)),oq 4 (.mv (.t 9)),oq 5 (.mv (.t 10))]) (.seq (.ops [ oq 11 (.mv (.t 4)),oq 12 (.mv (.t 5)),oq 2 (.mv (.t 11)),oq 3 (.mv (.t 12))]) .ret))
@[go_sem] def c30_5_wp:=wp_of c30_5.eq_1
def c30:AFn:=⟨13,[.t 2,.t 3],c30_5⟩
theorem c30_ok:compF Tryz.prog Tryz.f30=some c30:=by kernel_rfl
theorem a30 {args:List AV} {σ:ASt} {R:AV->ASt->Prop} (hl:args.length<=13) (h:c30_5.wp Tryz.prog (RetQ [.t 2,.t 3] R) (init args) σ):ACalls Tryz.prog 30 args σ R:=aFq Tryz.func30 c30_ok hl h
/-! 33: tabular/value.Of -/
def c33_38:ACode := .seq (.ops [ oe 1 (.box (.t 0)),oq 2 (.mv (.v .nili))]) (.seq (.seq (.ops [ oq 5 (.fa 0 (.t 1)),oq 6 (.ld none (.t 5))]) (.block 0 (.seq (.ops [ oq 8 (.bin .eql (.t 6) (.v (.int .i64 1))),oq 7 (.mv (.t 8))]) (.cond (.t 7) (.seq (.ops [ oq 9 (.fa 1 (.t 1)),oq 10 (.ld none (.t 9)),oe 11 (.call 73 [(.t 10)])]) (.cond (.t 11) (.seq (.ops [ oq 12 (.fa 1 (.t 1)),oq 13 (.ld none (.t 12)),oq 14 (.mki 136 (.t 13)),oq 2 (.mv (.t 14))]) .ret) .skip)) (.seq (.ops [ oq 16 (.bin .eql (.t 6) (.v (.int .i64 2))),oq 15 (.mv (.t 16))]) (.cond (.t 15) (.seq (.ops [ oq 18 (.fa 2 (.t 1)),oq 19 (.ld none (.t 18)),oe 20 (.call 74 [(.t 19)]),oq 17 (.mv (.t 20)),oq 21 (.ext 0 (.t 17)),oq 22 (.ext 1 (.t 17)),oq 3 (.mv (.t 21)),oq 4 (.mv (.t 22))]) (.seq (.ops [ oq 23 (.mv (.t 4)),oq 24 (.mv (.t 23)),⟨some 25,some (24,true),.q (.fa 2 (.t 1)),[]⟩,⟨some 26,some (24,true),.q (.ld none (.t 25)),[]⟩,⟨some 27,some (24,true),.q (.lenS (.t 26)),[]⟩,⟨some 28,some (24,true),.q (.bin .leq (.t 27) (.v (.int .i64 2000))),[]⟩,oq 29 (.pick (.t 24) (.t 28) (.v (.bool false)))]) (.cond (.t 29) (.seq (.ops [ oq 30 (.fa 2 (.t 1)),oq 31 (.ld none (.t 30)),oq 32 (.mki 135 (.t 31)),oq 2 (.mv (.t 32))]) .ret) .skip))) (.seq (.ops [ oq 34 (.bin .eql (.t 6) (.v (.int .i64 3))),oq 33 (.mv (.t 34))]) (.cond (.t 33) (.seq (.ops [ oq 35 (.fa 1 (.t 1)),oq 36 (.ld none (.t 35)),oq 37 (.bin .eql (.t 36) (.v (.int .i64 1))),oq 38 (.mki 139 (.t 37)),oq 2 (.mv (.t 38))]) .ret) (.seq (.ops [ oq 40 (.bin .eql (.t 6) (.v (.int .i64 4))),oq 39 (.mv (.t 40))]) (.cond (.t 39) (.seq (.ops [ oq 41 (.fa 1 (.t 1)),oq 42 (.ld none (.t 41)),oq 43 (.bin .geq (.t 42) (.v (.int .i64 1))),oq 44 (.mv (.t 43)),⟨some 45,some (44,true),.q (.fa 1 (.t 1)),[]⟩,⟨some 46,some (44,true),.q (.ld none (.t 45)),[]⟩,⟨some 47,some (44,true),.e (.call 70 []),[⟨(some (44,true)),.ld none (.t 45),46⟩]⟩,⟨some 48,some (44,true),.q (.len (.t 47)),[]⟩,⟨some 49,some (44,true),.q (.bin .leq (.t 46) (.t 48)),[]⟩,oq 50 (.pick (.t 44) (.t 49) (.v (.bool false)))]) (.cond (.t 50) (.seq (.ops [ oq 51 (.fa 1 (.t 1)),oq 52 (.ld none (.t 51)),oq 53 (.mki 77 (.t 52)),oq 2 (.mv (.t 53))]) .ret) .skip)) .skip)))))))))) (.seq (.ops [ oq 54 (.build [] []),oq 55 (.mki 138 (.t 54)),oq 2 (.mv (.t 55))]) .ret))
@[go_sem] def c33_38_wp:=wp_of c33_38.eq_1
def c33:AFn:=⟨56,[.t 2],c33_38⟩
theorem c33_ok:compF Tryz.prog Tryz.f33=some c33:=by kernel_rfl
theorem a33 {args:List AV} {σ:ASt} {R:AV->ASt->Prop} (hl:args.length<=56) (h:c33_38.wp Tryz.prog (RetQ [.t 2] R) (init args) σ):ACalls Tryz.prog 33 args σ R:=aFq Tryz.func33 c33_ok hl h
/-! 50: tabular/value.Tell -/
def c50_41:ACode := .seq (.ops [ oe 2 (.alloc [(.int .i64 0),(.int .i64 0),(.str [])])]) (.seq (.seq (.ops [ oq 7 (.mv (.t 0))]) (.block 0 (.seq (.ops [ oq 8 (.ta 136 (.int .i64 0) true (.t 7)),oq 9 (.ext 1 (.t 8)),oq 10 (.ext 0 (.t 8))]) (.cond (.t 9) (.seq (.ops [ oq 3 (.mv (.t 10))]) (.seq (.ops [ oq 11 (.mv (.t 3)),oq 12 (.build [(.int .i64 0),(.int .i64 0),(.str [])] [(0,1,(.v (.int .i64 1))),(1,1,(.t 11))]),oz (.store 3 (.t 2) (.t 12))]) .ret)) (.seq (.ops [ oq 13 (.ta 135 (.str []) true (.t 7)),oq 14 (.ext 1 (.t 13)),oq 15 (.ext 0 (.t 13))]) (.cond (.t 14) (.seq (.ops [ oq 4 (.mv (.t 15))]) (.seq (.ops [ oq 16 (.mv (.t 4)),oq 17 (.build [(.int .i64 0),(.int .i64 0),(.str [])] [(0,1,(.v (.int .i64 2))),(2,1,(.t 16))]),oz (.store 3 (.t 2) (.t 17))]) .ret)) (.seq (.ops [ oq 18 (.ta 139 (.bool false) true (.t 7)),oq 19 (.ext 1 (.t 18)),oq 20 (.ext 0 (.t 18))]) (.cond (.t 19) (.seq (.ops [ oq 5 (.mv (.t 20))]) (.seq (.seq (.ops [ oq 21 (.mv (.t 5))]) (.cond (.t 21) (.seq (.ops [ oq 22 (.build [(.int .i64 0),(.int .i64 0),(.str [])] [(0,1,(.v (.int .i64 3))),(1,1,(.v (.int .i64 1)))]),oz (.store 3 (.t 2) (.t 22))]) .ret) .skip)) (.seq (.ops [ oq 23 (.build [(.int .i64 0),(.int .i64 0),(.str [])] [(0,1,(.v (.int .i64 3)))]),oz (.store 3 (.t 2) (.t 23))]) .ret))) (.seq (.ops [ oq 24 (.ta 77 (.int .i64 0) true (.t 7)),oq 25 (.ext 1 (.t 24)),oq 26 (.ext 0 (.t 24))]) (.cond (.t 25) (.seq (.ops [ oq 6 (.mv (.t 26))]) (.seq (.ops [ oq 27 (.mv (.t 6)),oq 28 (.build [(.int .i64 0),(.int .i64 0),(.str [])] [(0,1,(.v (.int .i64 4))),(1,1,(.t 27))]),oz (.store 3 (.t 2) (.t 28))]) .ret)) .skip)))))))))) (.seq (.ops [ oq 29 (.build [(.int .i64 0),(.int .i64 0),(.str [])] []),oz (.store 3 (.t 2) (.t 29))]) .ret))
@[go_sem] def c50_41_wp:=wp_of c50_41.eq_1
def c50:AFn:=⟨30,[.c 2 (some 3)],c50_41⟩
theorem c50_ok:compF Tryz.prog Tryz.f50=some c50:=by kernel_rfl
theorem a50 {args:List AV} {σ:ASt} {R:AV->ASt->Prop} (hl:args.length<=30) (h:c50_41.wp Tryz.prog (RetQ [.c 2 (some 3)] R) (init args) σ):ACalls Tryz.prog 50 args σ R:=aFq Tryz.func50 c50_ok hl h
/-! 68: tabular/value.trim -/
def c68_3:ACode := .seq (.ops [ oq 2 (.mv (.v (.str [])))]) (.seq (.ops [ oq 3 (.mv (.t 0)),oe 4 (.call 114 [(.t 3),(.v (.str [32]))]),oq 2 (.mv (.t 4))]) .ret)
@[go_sem] def c68_3_wp:=wp_of c68_3.eq_1
def c68:AFn:=⟨5,[.t 2],c68_3⟩
theorem c68_ok:compF Tryz.prog Tryz.f68=some c68:=by kernel_rfl
theorem a68 {args:List AV} {σ:ASt} {R:AV->ASt->Prop} (hl:args.length<=5) (h:c68_3.wp Tryz.prog (RetQ [.t 2] R) (init args) σ):ACalls Tryz.prog 68 args σ R:=aFq Tryz.func68 c68_ok hl h
/-! 70: tabular/token.Errors -/
def c70_3:ACode := .seq (.ops [ oq 0 (.mv (.v (.sl .full [])))]) (.seq (.ops [ oq 1 (.bsl 1 [(.v (.str [35,68,73,86,47,48,33])),(.v (.str [35,78,85,77,33])),(.v (.str [35,86,65,76,85,69,33])),(.v (.str [35,82,69,70,33])),(.v (.str [35,78,47,65])),(.v (.str [35,78,65,77,69,63])),(.v (.str [35,67,89,67,76,69,33]))]),oq 0 (.mv (.t 1))]) .ret)
@[go_sem] def c70_3_wp:=wp_of c70_3.eq_1
def c70:AFn:=⟨2,[.t 0],c70_3⟩
theorem c70_ok:compF Tryz.prog Tryz.f70=some c70:=by kernel_rfl
theorem a70 {args:List AV} {σ:ASt} {R:AV->ASt->Prop} (hl:args.length<=2) (h:c70_3.wp Tryz.prog (RetQ [.t 0] R) (init args) σ):ACalls Tryz.prog 70 args σ R:=aFq Tryz.func70 c70_ok hl h
/-! 74: tabular/token.Signs -/
def c74_21:ACode := .seq (.ops [ oe 11 (.nxt (.t 10)),oq 12 (.ext 0 (.t 11))]) (.seq (.cond (.t 12) .skip (.exit 0)) (.block 1 (.seq (.ops [ oq 13 (.ext 1 (.t 11)),oq 14 (.ext 2 (.t 11)),oq 5 (.mv (.t 13)),oq 6 (.mv (.t 14))]) (.seq (.seq (.ops [ oq 15 (.mv (.t 6)),oq 16 (.bin .eql (.t 15) (.v (.int .i32 65533)))]) (.cond (.t 16) (.seq (.ops [ oq 18 (.mv (.t 0)),oq 19 (.mv (.t 5)),oq 20 (.slfrom (true,0) (.t 18) (.t 19)),oe 21 (.call 119 [(.t 20)]),oq 17 (.mv (.t 21)),oq 22 (.ext 0 (.t 17)),oq 23 (.ext 1 (.t 17)),oq 7 (.mv (.t 22)),oq 8 (.mv (.t 23))]) (.seq (.ops [ oq 24 (.mv (.t 8)),oq 25 (.bin .eql (.t 24) (.v (.int .i64 1)))]) (.cond (.t 25) (.seq (.ops [ oq 2 (.mv (.v (.int .i64 0))),oq 3 (.mv (.v (.bool false)))]) .ret) .skip))) .skip)) (.ops [ oq 26 (.mv (.t 4)),oq 27 (.bin .add (.t 26) (.v (.int .i64 1))),oq 4 (.mv (.t 27))])))))
def c74_26:ACode := .seq (.ops [ oq 28 (.mv (.t 4)),oq 2 (.mv (.t 28)),oq 3 (.mv (.v (.bool true)))]) .ret
def c74_29:ACode := .seq (.ops [ oq 2 (.mv (.v (.int .i64 0))),oq 3 (.mv (.v (.bool false)))]) (.seq (.ops [ oq 4 (.mv (.v (.int .i64 0)))]) (.seq (.seq (.ops [ oq 9 (.mv (.t 0)),oe 10 (.rng (.t 9))]) (.block 0 (.loop c74_21))) c74_26))
@[go_sem] def c74_21_wp:=wp_of c74_21.eq_1
@[go_sem] def c74_26_wp:=wp_of c74_26.eq_1
@[go_sem] def c74_29_wp:=wp_of c74_29.eq_1
def c74:AFn:=⟨29,[.t 2,.t 3],c74_29⟩
theorem c74_ok:compF Tryz.prog Tryz.f74=some c74:=by kernel_rfl
theorem a74 {args:List AV} {σ:ASt} {R:AV->ASt->Prop} (hl:args.length<=29) (h:c74_29.wp Tryz.prog (RetQ [.t 2,.t 3] R) (init args) σ):ACalls Tryz.prog 74 args σ R:=aFq Tryz.func74 c74_ok hl h
end Go.A
namespace Go.A
open Go.Proofs
inductive PV where
 | blank
 | num (n:Int)
 | text (s:List UInt8)
 | bool (b:Bool)
 | fail (n:Int)
 deriving DecidableEq
def PV.av:PV->AV
 | .blank => .iface 138 (.agg [])
 | .num n => .iface 136 (.int .i64 n)
 | .text s => .iface 135 (.str s)
 | .bool b => .iface 139 (.bool b)
 | .fail n => .iface 77 (.int .i64 n)
theorem PV.av_cells (v:PV):v.av.cells = [v.av]:=by cases v<;>rfl
theorem PV.av_leaf (v:PV):v.av.leaf=true:=by cases v<;>rfl
theorem PV.av_any (v:PV):v.av.isAny=false:=by cases v<;>rfl
def PV.small:PV->Prop
 | .text s=>s.length<=100000
 | _=>True
theorem sTrim_ok (s:List UInt8) (hs:s.length<=9223372036854775807):Pure Tryz.prog 114 [.str s,.str [32]] (.str (Lib.trimB s 32)):=by
 intro σ
 refine ACalls.of_ext (u := .string ⟨(Lib.trimB s 32).toArray⟩) (fun w vs hs' ha=>?_) fun w => .str _
 cases ha with
 | cons h1 h2=>
 cases h2 with
 | cons h2 h3=>
 cases h1;cases h2;cases h3
 exact (Tryz.strings_Trim_one ⟨⟨s⟩⟩ 32 (by decide) w hs).mono fun e w' ⟨he,hw⟩=>⟨he,by rcases hw with rfl|rfl;exact Ext.refl _;exact .drew (.refl _)⟩
theorem trimB_len (s:List UInt8) (c:UInt8):(Lib.trimB s c).length<=s.length:=by
 unfold Lib.trimB
 have h1:∀ l:List UInt8,(Lib.trimRightB l c).length<=l.length:=by
  intro l
  unfold Lib.trimRightB
  rw [List.length_reverse]
  exact Nat.le_trans (List.dropWhile_sublist _).length_le (by simp)
 have h2:∀ l:List UInt8,(Lib.trimLeftB l c).length<=l.length:=by
  intro l
  unfold Lib.trimLeftB
  exact (List.dropWhile_sublist _).length_le
 exact Nat.le_trans (h2 _) (h1 _)
theorem trim_ok (s:List UInt8) (hs:s.length<=9223372036854775807):Pure Tryz.prog 68 [.str s] (.str (Lib.trimB s 32)):=by
 intro σ
 have hT:=sTrim_ok s hs
 refine a68 (by simp) ?_
 simp (disch:=first|assumption|omega) only [go_sem]
 refine hT.use ?_
 simp (disch:=first|assumption|omega) only [go_sem]
 exact retC_by (by repeat' (first|exact Drop.refl _|with_reducible refine Drop.off ?_ (by assumption))) (.refl _) ⟨rfl,rfl⟩
def failedP:PV->Int×Bool
 | .fail n=>(n,true)
 | _=>(0,false)
theorem failed_ok (v:PV):Pure Tryz.prog 30 [v.av] (.tuple [.int .i64 (failedP v).1,.bool (failedP v).2]):=by
 intro σ
 refine a30 (by simp) ?_
 cases v<;>simp only [PV.av,failedP]<;>simp (disch:=first|assumption|omega) only [go_sem]
 all_goals exact retC_by (by repeat' (first|exact Drop.refl _|with_reducible refine Drop.off ?_ (by assumption))) (.refl _) ⟨rfl,rfl⟩
def tellAV:PV->AV
 | .blank => .agg [.int .i64 0,.int .i64 0,.str []]
 | .num n => .agg [.int .i64 1,.int .i64 n,.str []]
 | .text s => .agg [.int .i64 2,.int .i64 0,.str s]
 | .bool b => .agg [.int .i64 3,.int .i64 (if b=true then 1 else 0),.str []]
 | .fail n => .agg [.int .i64 4,.int .i64 n,.str []]
theorem tell_ok (v:PV):Pure Tryz.prog 50 [v.av] (tellAV v):=by
 intro σ
 refine a50 (by simp) ?_
 cases v with
 | bool b=>
   cases b<;>simp only [PV.av,tellAV]<;>simp (disch:=first|assumption|omega) only [go_sem]
   all_goals
    refine aBq fun b hb=>?_
    simp (disch:=first|assumption|omega) only [go_sem]
    exact retC_by (by repeat' (first|exact Drop.refl _|with_reducible refine Drop.off ?_ (by assumption))) (.refl _) ⟨rfl,rfl⟩
 | _=>
   simp only [PV.av,tellAV]
   simp (disch:=first|assumption|omega) only [go_sem]
   refine aBq fun b hb=>?_
   simp (disch:=first|assumption|omega) only [go_sem]
   exact retC_by (by repeat' (first|exact Drop.refl _|with_reducible refine Drop.off ?_ (by assumption))) (.refl _) ⟨rfl,rfl⟩
end Go.A
namespace Go.A
open Go.Proofs Go.Lib
set_option maxHeartbeats 1000000 in
theorem signs_ok {σ:ASt} (h:U8 σ) (s:List UInt8) (hs:s.length<=4611686018427387904):ACalls Tryz.prog 74 [.str s] σ fun v σ'=>v=sgAV s/\σ'=σ:=by
 refine a74 (by simp) ?_
 obtain ⟨R,hR⟩:∃ R,sgT s=R:=⟨_,rfl⟩
 unfold sgAV
 rw [hR]
 obtain ⟨F,hF⟩:∃ F,F=ACode.wp Tryz.prog c74_26:=⟨_,rfl⟩
 simp (disch:=first|assumption|omega) only [go_sem,←hF]
 refine fun b hb=>?_
 simp (disch:=first|assumption|omega) only [go_sem]
 refine wp_loop_by (fun (p:Nat) a σ'=>p<=s.length/\(∃ n:Nat,R=(sgT (s.drop p)).map (· + n)/\n<=p/\a 4 = .int .i64 n)/\(a 0 = .str s/\a 10 = .ptr b 0)/\σ'=σ.set b (some (.iter s p))) (fun p=>s.length-p) 0 (Dr.now ⟨Nat.zero_le _,⟨0,?_,Nat.le_refl _,?_⟩,?_,rfl⟩) ?_
 ·rw [<-hR,List.drop_zero];cases sgT s<;>rfl
 ·simp (disch:=first|assumption|omega) only [go_sem]
 ·simp (disch:=first|assumption|omega) only [go_sem]
 rintro p a σ1 ⟨hp,⟨n,hm,hn,h4⟩,hf,rfl⟩
 by_cases hlt:p<s.length
 ·have hlt':(p:Int)<s.length:=by omega
  have hne:s.drop p ≠ []:=by
   intro e
   have:=congrArg List.length e
   rw [List.length_drop] at this
   simp at this
   omega
  obtain ⟨⟨r,w⟩,hD⟩:∃ D,decodeL (s.drop p)=D:=⟨_,rfl⟩
  have hD2:Utf8.decode ⟨⟨s⟩⟩ p=(r,w):=by rw [<-hD];exact (decodeL_drop ⟨⟨s⟩⟩ p).symm
  have hw:=decodeL_width (s.drop p)
  have hwle:=decodeL_le (s.drop p) hne
  have hrb:=decodeL_rune (s.drop p)
  rw [List.length_drop] at hwle
  rw [hD] at hw hwle hrb
  dsimp only at hw hwle hrb
  by_cases hr:r=65533
  ·have hr':(r:Int)=65533:=by omega
   have hdc:=dec_ok (h.set hb (r:=some (.iter s (p+w)))) hne
   rw [hD] at hdc
   by_cases hw1:w=1
   ·have hbad:=sgT_bad hne (by rw [hD,hr,hw1])
    rw [hbad] at hm
    simp only [Option.map_none] at hm
    subst hm
    subst hw1
    have e1:((1:Nat):Int)=1:=rfl
    rw [e1] at hdc
    simp (disch:=first|assumption|omega) only [go_sem,hf]
    refine nxt_more hlt ?_
    rw [hD2]
    simp (disch:=first|assumption|omega) only [go_sem,hf,hr',List.take_length]
    refine hdc.mono ?_
    rintro v σ' ⟨rfl,rfl⟩
    simp (disch:=first|assumption|omega) only [go_sem]
    exact retC_by (by repeat' (first|exact Drop.refl _|with_reducible refine Drop.off ?_ (by assumption))) (.refl _) ⟨rfl,rfl⟩
   ·have hw1':¬ (w:Int)=1:=by omega
    have hgo:=sgT_step hne (by rw [hD];intro h;injection h with _ h;exact hw1 h)
    rw [hD] at hgo
    dsimp only at hgo
    rw [hgo,List.drop_drop,Option.map_map] at hm
    simp (disch:=first|assumption|omega) only [go_sem,hf]
    refine nxt_more hlt ?_
    rw [hD2]
    simp (disch:=first|assumption|omega) only [go_sem,hf,hr',List.take_length]
    refine hdc.mono ?_
    rintro v σ' ⟨rfl,rfl⟩
    simp (disch:=first|assumption|omega) only [go_sem,h4,hw1']
    refine ⟨p+w,by dsimp only;omega,Dr.now ⟨by omega,⟨n+1,?_,by omega,?_⟩,?_,rfl⟩⟩
    ·rw [hm]
     congr 1
     funext x
     simp only [Function.comp]
     omega
    ·simp (disch:=first|assumption|omega) only [go_sem]
    ·simp (disch:=first|assumption|omega) only [go_sem,hf]
  ·have hr':¬ (r:Int)=65533:=by omega
   have hgo:=sgT_step hne (by rw [hD];intro h;injection h with h _;exact hr h)
   rw [hD] at hgo
   dsimp only at hgo
   rw [hgo,List.drop_drop,Option.map_map] at hm
   simp (disch:=first|assumption|omega) only [go_sem,hf]
   refine nxt_more hlt ?_
   rw [hD2]
   simp (disch:=first|assumption|omega) only [go_sem,h4,hr',ASt.set_set]
   refine ⟨p+w,by dsimp only;omega,Dr.now ⟨by omega,⟨n+1,?_,by omega,?_⟩,?_,rfl⟩⟩
   ·rw [hm]
    congr 1
    funext x
    simp only [Function.comp]
    omega
   ·simp (disch:=first|assumption|omega) only [go_sem]
   ·simp (disch:=first|assumption|omega) only [go_sem,hf]
 ·have hlt':¬ (p:Int)<s.length:=by omega
  rw [List.drop_eq_nil_of_le (by omega),sgT_nil] at hm
  simp only [Option.map_some,Nat.zero_add] at hm
  subst hm
  simp (disch:=first|assumption|omega) only [go_sem,hf]
  refine nxt_over (by omega) ?_
  simp (disch:=first|assumption|omega) only [go_sem]
  rw [hF]
  simp (disch:=first|assumption|omega) only [go_sem,h4]
  exact retC_by (by repeat' (first|exact Drop.refl _|with_reducible refine Drop.off ?_ (by assumption))) (.refl _) ⟨rfl,rfl⟩
theorem errors_ok:Pure Tryz.prog 70 [] (.sl .shr [.str [35,68,73,86,47,48,33],.str [35,78,85,77,33],.str [35,86,65,76,85,69,33],.str [35,82,69,70,33],.str [35,78,47,65],.str [35,78,65,77,69,63],.str [35,67,89,67,76,69,33]]):=by
 intro σ
 refine a70 (by simp) ?_
 simp (disch:=first|assumption|omega) only [go_sem]
 exact retC_by (by repeat' (first|exact Drop.refl _|with_reducible refine Drop.off ?_ (by assumption))) (.sl _ _) ⟨rfl,rfl⟩
structure Pl where
 kind:Int
 n:Int
 s:List UInt8
def plAV (p:Pl):AV := .agg [.int .i64 p.kind,.int .i64 p.n,.str p.s]
def ofP (p:Pl):PV:=
 if p.kind=1 then (if p.n.natAbs<=999999999999999999 then .num p.n else .blank)
 else if p.kind=2 then (if (sgT p.s).isSome=true/\p.s.length<=2000 then .text p.s else .blank)
 else if p.kind=3 then .bool (decide (p.n=1))
 else if p.kind=4 then (if 1<=p.n/\p.n<=7 then .fail p.n else .blank)
 else .blank
set_option maxHeartbeats 1000000 in
theorem of_ok {σ:ASt} (h:U8 σ) (p:Pl) (hs:p.s.length<=4611686018427387904):ACalls Tryz.prog 33 [plAV p] σ fun v σ'=>v=(ofP p).av/\σ'=σ:=by
 obtain ⟨k,n,s⟩:=p
 dsimp only at hs
 unfold plAV ofP
 dsimp only
 refine a33 (by simp) ?_
 simp (disch:=first|assumption|omega) only [go_sem]
 refine boxC_by rfl fun b hb=>?_
 have hE:=errors_ok
 by_cases k1:k=1
 ·rw [if_pos k1]
  simp (disch:=first|assumption|omega) only [go_sem,k1]
  refine (dgood_ok n).use ?_
  by_cases hg:n.natAbs<=999999999999999999
  ·rw [if_pos hg]
   simp only [PV.av]
   simp (disch:=first|assumption|omega) only [go_sem,hg]
   exact retC_by (Drop.set hb) (.refl _) ⟨rfl,rfl⟩
  ·rw [if_neg hg]
   simp only [PV.av]
   simp (disch:=first|assumption|omega) only [go_sem,hg]
   exact retC_by (Drop.set hb) (.refl _) ⟨rfl,rfl⟩
 rw [if_neg k1]
 by_cases k2:k=2
 ·rw [if_pos k2]
  have hS2:=signs_ok (h.set hb (r:=some (.obj [.int .i64 2,.int .i64 n,.str s]))) s hs
  simp (disch:=first|assumption|omega) only [go_sem,k2]
  refine hS2.mono ?_
  rintro v σ' ⟨rfl,rfl⟩
  unfold sgAV
  cases sgT s with
  | none=>
    rw [if_neg (by simp)]
    simp only [PV.av]
    simp (disch:=first|assumption|omega) only [go_sem]
    exact retC_by (Drop.set hb) (.refl _) ⟨rfl,rfl⟩
  | some m=>
    by_cases hl:s.length<=2000
    ·have hl':(s.length:Int)<=2000:=by omega
     rw [if_pos ⟨rfl,hl⟩]
     simp only [PV.av]
     simp (disch:=first|assumption|omega) only [go_sem,hl']
     exact retC_by (Drop.set hb) (.refl _) ⟨rfl,rfl⟩
    ·have hl':¬ (s.length:Int)<=2000:=by omega
     rw [if_neg (fun h=>hl h.2)]
     simp only [PV.av]
     simp (disch:=first|assumption|omega) only [go_sem,hl']
     exact retC_by (Drop.set hb) (.refl _) ⟨rfl,rfl⟩
 rw [if_neg k2]
 by_cases k3:k=3
 ·rw [if_pos k3]
  simp only [PV.av]
  simp (disch:=first|assumption|omega) only [go_sem,k3]
  exact retC_by (Drop.set hb) (.refl _) ⟨rfl,rfl⟩
 rw [if_neg k3]
 by_cases k4:k=4
 ·rw [if_pos k4]
  by_cases g1:1<=n
  ·simp (disch:=first|assumption|omega) only [go_sem,k4,g1]
   refine hE.use ?_
   by_cases g2:n<=7
   ·rw [if_pos g2]
    simp only [PV.av]
    simp (disch:=first|assumption|omega) only [go_sem,g2]
    exact retC_by (Drop.set hb) (.refl _) ⟨rfl,rfl⟩
   ·rw [if_neg g2]
    simp only [PV.av]
    simp (disch:=first|assumption|omega) only [go_sem,g2]
    exact retC_by (Drop.set hb) (.refl _) ⟨rfl,rfl⟩
  ·rw [if_neg (fun h=>g1 h.1)]
   simp only [PV.av]
   simp (disch:=first|assumption|omega) only [go_sem,k4,g1]
   exact retC_by (Drop.set hb) (.refl _) ⟨rfl,rfl⟩
 ·rw [if_neg k4]
  simp only [PV.av]
  simp (disch:=first|assumption|omega) only [go_sem,k1,k2,k3,k4]
  exact retC_by (Drop.set hb) (.refl _) ⟨rfl,rfl⟩
end Go.A
namespace Go.A
open Go.Proofs
/-! 36: tabular/value.IsBlank -/
def c36_5:ACode := .seq (.ops [ oq 2 (.mv (.v (.bool false)))]) (.seq (.ops [ oq 6 (.mv (.t 0)),oq 7 (.ta 138 (.agg []) true (.t 6)),oq 5 (.mv (.t 7)),oq 8 (.ext 0 (.t 5)),oq 9 (.ext 1 (.t 5)),oe 3 (.alloc []),oz (.store 0 (.t 3) (.t 8)),oq 4 (.mv (.t 9))]) (.seq (.ops [ oq 10 (.mv (.t 4)),oq 2 (.mv (.t 10))]) .ret))
@[go_sem] def c36_5_wp:=wp_of c36_5.eq_1
def c36:AFn:=⟨11,[.t 2],c36_5⟩
theorem c36_ok:compF Tryz.prog Tryz.f36=some c36:=by kernel_rfl
theorem a36 {args:List AV} {σ:ASt} {R:AV->ASt->Prop} (hl:args.length<=11) (h:c36_5.wp Tryz.prog (RetQ [.t 2] R) (init args) σ):ACalls Tryz.prog 36 args σ R:=aFq Tryz.func36 c36_ok hl h
/-! 69: tabular/value.Great -/
def c69_15:ACode := .seq (.ops [ oq 11 (.bin .lss (.t 10) (.t 9))]) (.seq (.cond (.t 11) .skip (.exit 0)) (.seq (.block 1 (.seq (.ops [ oq 12 (.mv (.t 10)),oq 13 (.ia 1 (.t 8) (.t 10)),oq 14 (.ld none (.t 13)),oq 4 (.mv (.t 12)),oq 5 (.mv (.t 14))]) (.seq (.ops [ oq 15 (.mv (.t 5)),oq 16 (.bin .geq (.t 15) (.v (.int .u8 97))),oq 17 (.mv (.t 16)),⟨some 18,some (17,true),.q (.mv (.t 5)),[]⟩,⟨some 19,some (17,true),.q (.bin .leq (.t 18) (.v (.int .u8 122))),[]⟩,oq 20 (.pick (.t 17) (.t 19) (.v (.bool false)))]) (.cond (.t 20) (.ops [ oq 21 (.mv (.t 3)),oq 22 (.mv (.t 4)),oq 23 (.mv (.t 5)),oq 24 (.bin .sub (.t 23) (.v (.int .u8 32))),oq 25 (.ia 1 (.t 21) (.t 22)),oz (.store 1 (.t 25) (.t 24))]) .skip)))) (.ops [ oq 26 (.bin .add (.t 10) (.v (.int .i64 1))),oq 10 (.mv (.t 26))])))
def c69_23:ACode := .seq (.ops [ oq 2 (.mv (.v (.str [])))]) (.seq (.ops [ oq 6 (.mv (.t 0)),oe 7 (.s2b (.t 6)),oq 3 (.mv (.t 7))]) (.seq (.seq (.ops [ oq 8 (.mv (.t 3)),oq 9 (.len (.t 8)),oq 10 (.mv (.v (.int .i64 0)))]) (.block 0 (.loop c69_15))) (.seq (.ops [ oq 27 (.mv (.t 3)),oq 28 (.b2s (.t 27)),oq 2 (.mv (.t 28))]) .ret)))
@[go_sem] def c69_15_wp:=wp_of c69_15.eq_1
@[go_sem] def c69_23_wp:=wp_of c69_23.eq_1
def c69:AFn:=⟨29,[.t 2],c69_23⟩
theorem c69_ok:compF Tryz.prog Tryz.f69=some c69:=by kernel_rfl
theorem a69 {args:List AV} {σ:ASt} {R:AV->ASt->Prop} (hl:args.length<=29) (h:c69_23.wp Tryz.prog (RetQ [.t 2] R) (init args) σ):ACalls Tryz.prog 69 args σ R:=aFq Tryz.func69 c69_ok hl h
end Go.A
namespace Go.A
open Go.Proofs Go.Lib
theorem vgreat_ok (l:List UInt8) (hl:l.length<4611686018427387904):Pure Tryz.prog 69 [.str l] (.str (greatP l)):=by
 intro σ
 refine a69 (by simp) ?_
 simp (disch:=first|assumption|omega) only [go_sem]
 refine s2b_own fun b cp hb hcp=>?_
 simp (disch:=first|assumption|omega) only [go_sem]
 refine wLq (fun (i:Nat) a σ'=>i<=l.length/\(a 3 = .msl b 0 l.length cp/\a 8 = .msl b 0 l.length cp/\a 9 = .int .i64 l.length/\a 10 = .int .i64 i)/\σ'=σ.set b (some (.obj (bytesAV (greatP (l.take i)++l.drop i)))))
  (fun i=>l.length-i) 0 ⟨Nat.zero_le _,?_,by simp [greatP]⟩ ?_
 ·simp (disch:=first|assumption|omega) only [go_sem]
 rintro i a σ1 ⟨hi,hf,rfl⟩
 obtain ⟨m,hm⟩:∃ m,greatP (l.take i)++l.drop i=m:=⟨_,rfl⟩
 have hml:m.length=l.length:=by rw [<-hm];simp [greatP];omega
 have hgl:(greatP (l.take i)).length=i:=by simp [greatP];omega
 rw [hm]
 by_cases hlt:i<l.length
 ·have hidx : m[i]? = some (l[i]'hlt) := by rw [← hm, List.getElem?_append_right (by omega), hgl]; simp
  obtain ⟨c, hc⟩ : ∃ c, l[i]'hlt = c := ⟨_, rfl⟩
  rw [hc] at hidx
  have hcb:=u8_lt c
  have hi2:(i:Int)<l.length:=by omega
  have hle:i+1<=m.length:=by omega
  have hnext:greatP (l.take (i+1))++l.drop (i+1)=m.set i (greatC c):=by
   rw [<-hm,List.take_succ_eq_append_getElem hlt,hc,List.set_append_right _ _ (by omega),hgl,Nat.sub_self]
   simp only [greatP,List.map_append,List.map_cons,List.map_nil,List.append_assoc,List.singleton_append]
   rw [List.drop_eq_getElem_cons hlt]
   rfl
  by_cases hg:97<=c.toNat/\c.toNat<=122
  ·have g1:(97:Int)<=c.toNat:=by omega
   have g2:(c.toNat:Int)<=122:=by omega
   have hgc:greatC c=UInt8.ofNat (c.toNat-32):=by unfold greatC;rw [if_pos hg]
   have hw:=set_bytes (l:=m) (i:=i) (m:=(c.toNat:Int)-32) (by omega)
   have hw0:(c.toNat:Int)-32=((UInt8.ofNat (c.toNat-32)).toNat:Int):=by rw [u8_nat (by omega)];omega
   rw [hw0,bytes_set] at hw
   simp (disch:=first|assumption|omega) only [go_sem,hf,hi2,hidx,g1,g2,hle,hw0,hw]
   refine ⟨i+1,by omega,by omega,?_,by rw [hnext,hgc]⟩
   simp (disch:=first|assumption|omega) only [go_sem]
  ·have hgc:greatC c=c:=by unfold greatC;rw [if_neg hg]
   have hms:m.set i c=m:=by
    apply List.ext_getElem?
    intro j
    rw [List.getElem?_set]
    split
    ·rename_i h;subst h;rw [hidx];split<;>first|rfl|omega
    ·rfl
   by_cases g1:(97:Int)<=c.toNat
   ·have g2:¬ (c.toNat:Int)<=122:=by omega
    simp (disch:=first|assumption|omega) only [go_sem,hf,hi2,hidx,g1,g2]
    refine ⟨i+1,by omega,by omega,?_,by rw [hnext,hgc,hms]⟩
    simp (disch:=first|assumption|omega) only [go_sem]
   ·simp (disch:=first|assumption|omega) only [go_sem,hf,hi2,hidx,g1]
    refine ⟨i+1,by omega,by omega,?_,by rw [hnext,hgc,hms]⟩
    simp (disch:=first|assumption|omega) only [go_sem]
 ·have e:greatP (l.take i)++l.drop i=greatP l:=by rw [List.take_of_length_le (by omega),List.drop_of_length_le (by omega),List.append_nil]
  have hi2:¬ (i:Int)<l.length:=by omega
  rw [e] at hm
  subst hm
  have hb2:bytesOf ((bytesAV (greatP l)).take l.length)=some (greatP l):=by
   rw [List.take_of_length_le (by simp [bytesAV,greatP])]
   exact bytesOf_bytesAV _
  simp (disch:=first|assumption|omega) only [go_sem,hf,hi2,hml,hb2,Nat.le_refl]
  exact retC_by (Drop.set hb) (.refl _) ⟨rfl,rfl⟩
end Go.A
namespace Go.A
open Go.Proofs
/-! 134: tabular/tabularref15.Text -/
/-! 137: tabular/tabularref15.Num -/
/-! 139: tabular/tabularref15.Bool -/
/-! 140: tabular/tabularref15.Fail -/
end Go.A
end
