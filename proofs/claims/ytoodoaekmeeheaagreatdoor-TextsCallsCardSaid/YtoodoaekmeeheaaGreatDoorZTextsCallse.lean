/- Part 5 of what TextsCalls leans on: Shelf Wz Ga CodeTg Tg Za Zu CodeEg Eg CodeH Hc Hd Hf CodeJ Ja Jg CodeJl Jl. -/
import Derived.Shelf.Strings.Builder1
import Derived.Shelf.Strings.Builder2
import Derived.Shelf.Strings.OnBuilder
import Derived.Shelf.Strings.Trim
import Derived.Shelf.Small.Utf8
import Derived.Shelf.Small.Strs
import Derived.Shelf.Small.Wraps
import Derived.Shelf.Strings.BuilderF
import Derived.Shelf.Strings.BuilderK
import Derived.Shelf.Utf8.RuneCount
import Derived.Shelf.Strings.Builder2Cap
import Derived.Shelf.Strconv.Itoa0
import Derived.Shelf.Strconv.Itoa1
import Derived.Shelf.LaysM
import Derived.Shelf.Strconv.Itoa2
import Derived.Shelf.Strings.Search1
import Derived.Shelf.Strings.Search2
import Derived.Shelf.Strings.Search3
import Derived.Shelf.Strings.Cut
import Derived.Shelf.Strings.Shaped
import Derived.Shelf.Strings.Prefix
import Derived.Shelf.Unicode.Decode
import Derived.Shelf.Strings.Runes
import Derived.Shelf.Strings.RuneCount
import Derived.Shelf.Strings.AsciiSet
import Derived.Shelf.Bits.Mul64
import Derived.Shelf.Strings.Repeat
import Derived.Shelf.Unicode.DecodeSlow
import Derived.Shelf.Unicode.DecodeAny
import Derived.Shelf.Unicode.DecodeLast
import Derived.Shelf.Strings.BuilderCap
import Derived.Test.YtoodoaekmeeheaaGreatDoorProg
import Derived.Lib.ItoaMem
import Derived.KernelRfl
import Derived.Lib.MapLaws
import Derived.Lib.RuneCount
import Derived.Lib.LaidU8
import Derived.Lib.AppendIntMem
import Derived.BigCall
import Derived.BigGuard
import Derived.Test.YtoodoaekmeeheaaGreatDoorZTextsCallsd
set_option linter.defProp false
set_option linter.unusedSimpArgs false
set_option linter.unusedVariables false
set_option maxRecDepth 100000
namespace Go.Proofs
open Go.Shelf
def Tryz.lays169_ren:Go.Shelf.Ren:=⟨fun|169=>91|n=>n,fun|70=>132|9=>9|0=>0|72=>134|37=>109|127=>160|3=>3|5=>5|n=>n,fun|n=>n⟩
theorem Tryz.lays169:Go.Proofs.Lays.n169 Tryz.prog Tryz.lays169_ren := {
 mixed:=by kernel_rfl
 f169:=Tryz.func91.trans (congrArg some (by kernel_rfl))
 t0:=Tryz.underlying0
 a0:=Tryz.isAgg0
 z0:=Tryz.sizeOf0
 v0:=Tryz.zeroValue0
 t3:=Tryz.underlying3
 a3:=Tryz.isAgg3
 z3:=Tryz.sizeOf3
 v3:=Tryz.zeroValue3
 t9:=Tryz.underlying9
 a9:=Tryz.isAgg9
 z9:=Tryz.sizeOf9
 v9:=Tryz.zeroValue9
 t37:=Tryz.underlying109
 a37:=Tryz.isAgg109
 z37:=Tryz.sizeOf109
 v37:=Tryz.zeroValue109
 t70:=Tryz.underlying132
 a70:=Tryz.isAgg132
 z70:=Tryz.sizeOf132
 v70:=Tryz.zeroValue132
 t72:=Tryz.underlying134
 a72:=Tryz.isAgg134
 z72:=Tryz.sizeOf134
 v72:=Tryz.zeroValue134
 t127:=Tryz.underlying160
 a127:=Tryz.isAgg160
 z127:=Tryz.sizeOf160
 v127:=Tryz.zeroValue160 }
theorem Tryz.Builder_Extra_169:Builder.Extra Tryz.prog Tryz.lays169_ren := {
 sizeBuilder:=by kernel_rfl
 liesBuilder:=by kernel_rfl
 t5:=Tryz.underlying5
 a5:=Tryz.isAgg5
 z5:=Tryz.sizeOf5
 v5:=Tryz.zeroValue5
 infoByte:=by kernel_rfl
 cellsByte:=by kernel_rfl
 sizeByte:=by kernel_rfl
 neB5:=by decide }
def Tryz.lays156_ren:Go.Shelf.Ren:=⟨fun|156=>121|165=>114|166=>89|169=>91|240=>118|241=>136|276=>141|277=>150|n=>n,fun|31=>71|9=>9|3=>3|4=>4|0=>0|20=>20|72=>134|76=>139|70=>132|37=>109|75=>138|127=>160|164=>180|5=>5|80=>120|n=>n,fun|n=>n⟩
theorem Tryz.lays156:Go.Proofs.Lays.n156 Tryz.prog Tryz.lays156_ren := {
 mixed:=by kernel_rfl
 f156:=Tryz.func121.trans (congrArg some (by kernel_rfl))
 f165:=Tryz.func114.trans (congrArg some (by kernel_rfl))
 f166:=Tryz.func89.trans (congrArg some (by kernel_rfl))
 f169:=Tryz.func91.trans (congrArg some (by kernel_rfl))
 f240:=Tryz.func118.trans (congrArg some (by kernel_rfl))
 f241:=Tryz.func136.trans (congrArg some (by kernel_rfl))
 f276:=Tryz.func141.trans (congrArg some (by kernel_rfl))
 f277:=Tryz.func150.trans (congrArg some (by kernel_rfl))
 t0:=Tryz.underlying0
 a0:=Tryz.isAgg0
 z0:=Tryz.sizeOf0
 v0:=Tryz.zeroValue0
 t3:=Tryz.underlying3
 a3:=Tryz.isAgg3
 z3:=Tryz.sizeOf3
 v3:=Tryz.zeroValue3
 t4:=Tryz.underlying4
 a4:=Tryz.isAgg4
 z4:=Tryz.sizeOf4
 v4:=Tryz.zeroValue4
 t9:=Tryz.underlying9
 a9:=Tryz.isAgg9
 z9:=Tryz.sizeOf9
 v9:=Tryz.zeroValue9
 t20:=Tryz.underlying20
 a20:=Tryz.isAgg20
 z20:=Tryz.sizeOf20
 v20:=Tryz.zeroValue20
 t31:=Tryz.underlying71
 a31:=Tryz.isAgg71
 z31:=Tryz.sizeOf71
 v31:=Tryz.zeroValue71
 t37:=Tryz.underlying109
 a37:=Tryz.isAgg109
 z37:=Tryz.sizeOf109
 v37:=Tryz.zeroValue109
 t70:=Tryz.underlying132
 a70:=Tryz.isAgg132
 z70:=Tryz.sizeOf132
 v70:=Tryz.zeroValue132
 t72:=Tryz.underlying134
 a72:=Tryz.isAgg134
 z72:=Tryz.sizeOf134
 v72:=Tryz.zeroValue134
 t75:=Tryz.underlying138
 a75:=Tryz.isAgg138
 z75:=Tryz.sizeOf138
 v75:=Tryz.zeroValue138
 t76:=Tryz.underlying139
 a76:=Tryz.isAgg139
 z76:=Tryz.sizeOf139
 v76:=Tryz.zeroValue139
 t127:=Tryz.underlying160
 a127:=Tryz.isAgg160
 z127:=Tryz.sizeOf160
 v127:=Tryz.zeroValue160
 t164:=Tryz.underlying180
 a164:=Tryz.isAgg180
 z164:=Tryz.sizeOf180
 v164:=Tryz.zeroValue180 }
theorem Tryz.Builder_Extra_156:Builder.Extra Tryz.prog Tryz.lays156_ren := {
 sizeBuilder:=by kernel_rfl
 liesBuilder:=by kernel_rfl
 t5:=Tryz.underlying5
 a5:=Tryz.isAgg5
 z5:=Tryz.sizeOf5
 v5:=Tryz.zeroValue5
 infoByte:=by kernel_rfl
 cellsByte:=by kernel_rfl
 sizeByte:=by kernel_rfl
 neB5:=by decide }
open Go.RowKit in
theorem Tryz.strings_Join_none (a:Option Addr) (c:Nat) (sep:ByteArray) (w:World) :
  Calls Tryz.prog 121 #[.slice a 0 c,.string sep] w fun e w'=>e = .returned (.string ⟨#[]⟩)/\w'=w:=Any.strings_Join_none Tryz.lays156 Tryz.Builder_Extra_156 a c sep w
open Go.RowKit in
theorem Tryz.strings_Join (bk o c:Nat) (xs:List ByteArray) (sep:ByteArray) (w:World) (hcells:∀ (j:Nat) x,xs[j]? = some x->w.cell? ⟨bk,o+j,none⟩=some (.string x)) (hbk:bk<w.heap.size) (hN:xs.length<=140737488355328) (hcap:xs.length<=c) (hlen:(Lib.join (xs.map (·.data.toList)) sep.data.toList).length<=140737488355328) :
  Calls Tryz.prog 121 #[.slice (some ⟨bk,o,none⟩) xs.length c,.string sep] w fun e w'=>e = .returned (.string ⟨(Lib.join (xs.map (·.data.toList)) sep.data.toList).toArray⟩)/\Below w.heap.size w w':=Any.strings_Join Tryz.lays156 Tryz.Builder_Extra_156 bk o c xs sep w hcells hbk hN hcap hlen
def Tryz.lays162_ren:Go.Shelf.Ren:=⟨fun|162=>105|232=>125|227=>126|234=>127|236=>128|228=>147|271=>148|151=>149|120=>159|197=>97|152=>160|260=>122|137=>163|119=>75|224=>139|225=>138|217=>137|266=>151|n=>n,fun|9=>9|4=>4|3=>3|5=>5|117=>169|116=>168|0=>0|124=>172|21=>21|105=>142|46=>153|119=>183|139=>186|138=>185|n=>n,fun|3=>1|4=>2|n=>n⟩
theorem Tryz.lays162:Go.Proofs.Lays.n162 Tryz.prog Tryz.lays162_ren := {
 mixed:=by kernel_rfl
 f119:=Tryz.func75.trans (congrArg some (by kernel_rfl))
 f120:=Tryz.func159.trans (congrArg some (by kernel_rfl))
 f137:=Tryz.func163.trans (congrArg some (by kernel_rfl))
 f151:=Tryz.func149.trans (congrArg some (by kernel_rfl))
 f152:=Tryz.func160.trans (congrArg some (by kernel_rfl))
 f162:=Tryz.func105.trans (congrArg some (by kernel_rfl))
 f197:=Tryz.func97.trans (congrArg some (by kernel_rfl))
 f217:=Tryz.func137.trans (congrArg some (by kernel_rfl))
 f224:=Tryz.func139.trans (congrArg some (by kernel_rfl))
 f225:=Tryz.func138.trans (congrArg some (by kernel_rfl))
 f227:=Tryz.func126.trans (congrArg some (by kernel_rfl))
 f228:=Tryz.func147.trans (congrArg some (by kernel_rfl))
 f232:=Tryz.func125.trans (congrArg some (by kernel_rfl))
 f234:=Tryz.func127.trans (congrArg some (by kernel_rfl))
 f236:=Tryz.func128.trans (congrArg some (by kernel_rfl))
 f260:=Tryz.func122.trans (congrArg some (by kernel_rfl))
 f266:=Tryz.func151.trans (congrArg some (by kernel_rfl))
 f271:=Tryz.func148.trans (congrArg some (by kernel_rfl))
 t0:=Tryz.underlying0
 a0:=Tryz.isAgg0
 z0:=Tryz.sizeOf0
 v0:=Tryz.zeroValue0
 t3:=Tryz.underlying3
 a3:=Tryz.isAgg3
 z3:=Tryz.sizeOf3
 v3:=Tryz.zeroValue3
 t4:=Tryz.underlying4
 a4:=Tryz.isAgg4
 z4:=Tryz.sizeOf4
 v4:=Tryz.zeroValue4
 t5:=Tryz.underlying5
 a5:=Tryz.isAgg5
 z5:=Tryz.sizeOf5
 v5:=Tryz.zeroValue5
 t9:=Tryz.underlying9
 a9:=Tryz.isAgg9
 z9:=Tryz.sizeOf9
 v9:=Tryz.zeroValue9
 t21:=Tryz.underlying21
 a21:=Tryz.isAgg21
 z21:=Tryz.sizeOf21
 v21:=Tryz.zeroValue21
 t46:=Tryz.underlying153
 a46:=Tryz.isAgg153
 z46:=Tryz.sizeOf153
 v46:=Tryz.zeroValue153
 t105:=Tryz.underlying142
 a105:=Tryz.isAgg142
 z105:=Tryz.sizeOf142
 v105:=Tryz.zeroValue142
 t116:=Tryz.underlying168
 a116:=Tryz.isAgg168
 z116:=Tryz.sizeOf168
 t117:=Tryz.underlying169
 a117:=Tryz.isAgg169
 z117:=Tryz.sizeOf169
 v117:=Tryz.zeroValue169
 t119:=Tryz.underlying183
 a119:=Tryz.isAgg183
 z119:=Tryz.sizeOf183
 t124:=Tryz.underlying172
 a124:=Tryz.isAgg172
 z124:=Tryz.sizeOf172
 v124:=Tryz.zeroValue172
 t138:=Tryz.underlying185
 a138:=Tryz.isAgg185
 z138:=Tryz.sizeOf185
 v138:=Tryz.zeroValue185
 t139:=Tryz.underlying186
 a139:=Tryz.isAgg186
 z139:=Tryz.sizeOf186
 v139:=Tryz.zeroValue186
 g3:=by kernel_rfl
 g4:=by kernel_rfl }
open Go.RowKit in
theorem Tryz.strings_TrimRight_one (s:ByteArray) (c:UInt8) (hc:c.toNat<128) (w:World) (hs:s.size<=9223372036854775807) :
  Calls Tryz.prog 105 #[.string s,.string ⟨#[c]⟩] w fun e w'=>e = .returned (.string ⟨(Lib.trimRightB s.data.toList c).toArray⟩)/\w'=w:=Any.strings_TrimRight_one Tryz.lays162 s c hc w hs
def Tryz.lays160_ren:Go.Shelf.Ren:=⟨fun|160=>109|232=>125|231=>130|227=>126|234=>127|233=>131|236=>128|235=>132|228=>147|271=>148|151=>149|197=>97|120=>159|152=>160|260=>122|137=>163|119=>75|224=>139|225=>138|217=>137|266=>151|n=>n,fun|9=>9|4=>4|3=>3|5=>5|117=>169|116=>168|0=>0|124=>172|21=>21|105=>142|46=>153|119=>183|139=>186|138=>185|n=>n,fun|3=>1|4=>2|n=>n⟩
theorem Tryz.lays160:Go.Proofs.Lays.n160 Tryz.prog Tryz.lays160_ren := {
 mixed:=by kernel_rfl
 f119:=Tryz.func75.trans (congrArg some (by kernel_rfl))
 f120:=Tryz.func159.trans (congrArg some (by kernel_rfl))
 f137:=Tryz.func163.trans (congrArg some (by kernel_rfl))
 f151:=Tryz.func149.trans (congrArg some (by kernel_rfl))
 f152:=Tryz.func160.trans (congrArg some (by kernel_rfl))
 f160:=Tryz.func109.trans (congrArg some (by kernel_rfl))
 f197:=Tryz.func97.trans (congrArg some (by kernel_rfl))
 f217:=Tryz.func137.trans (congrArg some (by kernel_rfl))
 f224:=Tryz.func139.trans (congrArg some (by kernel_rfl))
 f225:=Tryz.func138.trans (congrArg some (by kernel_rfl))
 f227:=Tryz.func126.trans (congrArg some (by kernel_rfl))
 f228:=Tryz.func147.trans (congrArg some (by kernel_rfl))
 f231:=Tryz.func130.trans (congrArg some (by kernel_rfl))
 f232:=Tryz.func125.trans (congrArg some (by kernel_rfl))
 f233:=Tryz.func131.trans (congrArg some (by kernel_rfl))
 f234:=Tryz.func127.trans (congrArg some (by kernel_rfl))
 f235:=Tryz.func132.trans (congrArg some (by kernel_rfl))
 f236:=Tryz.func128.trans (congrArg some (by kernel_rfl))
 f260:=Tryz.func122.trans (congrArg some (by kernel_rfl))
 f266:=Tryz.func151.trans (congrArg some (by kernel_rfl))
 f271:=Tryz.func148.trans (congrArg some (by kernel_rfl))
 t0:=Tryz.underlying0
 a0:=Tryz.isAgg0
 z0:=Tryz.sizeOf0
 v0:=Tryz.zeroValue0
 t3:=Tryz.underlying3
 a3:=Tryz.isAgg3
 z3:=Tryz.sizeOf3
 v3:=Tryz.zeroValue3
 t4:=Tryz.underlying4
 a4:=Tryz.isAgg4
 z4:=Tryz.sizeOf4
 v4:=Tryz.zeroValue4
 t5:=Tryz.underlying5
 a5:=Tryz.isAgg5
 z5:=Tryz.sizeOf5
 v5:=Tryz.zeroValue5
 t9:=Tryz.underlying9
 a9:=Tryz.isAgg9
 z9:=Tryz.sizeOf9
 v9:=Tryz.zeroValue9
 t21:=Tryz.underlying21
 a21:=Tryz.isAgg21
 z21:=Tryz.sizeOf21
 v21:=Tryz.zeroValue21
 t46:=Tryz.underlying153
 a46:=Tryz.isAgg153
 z46:=Tryz.sizeOf153
 v46:=Tryz.zeroValue153
 t105:=Tryz.underlying142
 a105:=Tryz.isAgg142
 z105:=Tryz.sizeOf142
 v105:=Tryz.zeroValue142
 t116:=Tryz.underlying168
 a116:=Tryz.isAgg168
 z116:=Tryz.sizeOf168
 t117:=Tryz.underlying169
 a117:=Tryz.isAgg169
 z117:=Tryz.sizeOf169
 v117:=Tryz.zeroValue169
 t119:=Tryz.underlying183
 a119:=Tryz.isAgg183
 z119:=Tryz.sizeOf183
 t124:=Tryz.underlying172
 a124:=Tryz.isAgg172
 z124:=Tryz.sizeOf172
 v124:=Tryz.zeroValue172
 t138:=Tryz.underlying185
 a138:=Tryz.isAgg185
 z138:=Tryz.sizeOf185
 v138:=Tryz.zeroValue185
 t139:=Tryz.underlying186
 a139:=Tryz.isAgg186
 z139:=Tryz.sizeOf186
 v139:=Tryz.zeroValue186
 g3:=by kernel_rfl
 g4:=by kernel_rfl }
open Go.RowKit in
theorem Tryz.strings_Trim_one (s:ByteArray) (c:UInt8) (hc:c.toNat<128) (w:World) (hs:s.size<=9223372036854775807) :
  Calls Tryz.prog 109 #[.string s,.string ⟨#[c]⟩] w fun e w'=>e = .returned (.string ⟨(Lib.trimB s.data.toList c).toArray⟩)/\(w'=w\/w'=w.drew):=Any.strings_Trim_one Tryz.lays160 s c hc w hs
def Tryz.lays119_ren:Go.Shelf.Ren:=⟨fun|119=>75|n=>n,fun|21=>21|4=>4|n=>n,fun|n=>n⟩
theorem Tryz.lays119:Go.Proofs.Lays.n119 Tryz.prog Tryz.lays119_ren := {
 mixed:=by kernel_rfl
 f119:=Tryz.func75.trans (congrArg some (by kernel_rfl))
 t4:=Tryz.underlying4
 a4:=Tryz.isAgg4
 z4:=Tryz.sizeOf4
 v4:=Tryz.zeroValue4
 t21:=Tryz.underlying21
 a21:=Tryz.isAgg21
 z21:=Tryz.sizeOf21
 v21:=Tryz.zeroValue21 }
theorem Tryz.utf8_ValidRune (r:Int) (w:World) :
  Calls Tryz.prog 75 #[.int .i32 r] w fun e w'=>e = .returned (.bool (Lib.validRune r))/\w'=w:=Any.utf8_ValidRune Tryz.lays119 r w
def Tryz.lays103_ren:Go.Shelf.Ren:=⟨fun|103=>107|210=>129|206=>135|n=>n,fun|9=>9|4=>4|24=>66|3=>3|n=>n,fun|n=>n⟩
theorem Tryz.lays103:Go.Proofs.Lays.n103 Tryz.prog Tryz.lays103_ren := {
 mixed:=by kernel_rfl
 f103:=Tryz.func107.trans (congrArg some (by kernel_rfl))
 f206:=Tryz.func135.trans (congrArg some (by kernel_rfl))
 f210:=Tryz.func129.trans (congrArg some (by kernel_rfl))
 t3:=Tryz.underlying3
 a3:=Tryz.isAgg3
 z3:=Tryz.sizeOf3
 v3:=Tryz.zeroValue3
 t4:=Tryz.underlying4
 a4:=Tryz.isAgg4
 z4:=Tryz.sizeOf4
 v4:=Tryz.zeroValue4
 t9:=Tryz.underlying9
 a9:=Tryz.isAgg9
 z9:=Tryz.sizeOf9
 v9:=Tryz.zeroValue9
 t24:=Tryz.underlying66
 a24:=Tryz.isAgg66
 z24:=Tryz.sizeOf66
 v24:=Tryz.zeroValue66 }
open Go.RowKit in
theorem Tryz.strings_CutPrefix (s p:ByteArray) (w:World) :
  Calls Tryz.prog 107 #[.string s,.string p] w fun e w'=>e = .returned (.tuple #[.string ⟨(Lib.trimPrefix s.data.toList p.data.toList).toArray⟩,.bool (Lib.hasPrefix s.data.toList p.data.toList)])/\w'=w:=Any.strings_CutPrefix Tryz.lays103 s p w
def Tryz.lays195_ren:Go.Shelf.Ren:=⟨fun|195=>111|n=>n,fun|9=>9|3=>3|0=>0|4=>4|n=>n,fun|n=>n⟩
theorem Tryz.lays195:Go.Proofs.Lays.n195 Tryz.prog Tryz.lays195_ren := {
 mixed:=by kernel_rfl
 f195:=Tryz.func111.trans (congrArg some (by kernel_rfl))
 t0:=Tryz.underlying0
 a0:=Tryz.isAgg0
 z0:=Tryz.sizeOf0
 v0:=Tryz.zeroValue0
 t3:=Tryz.underlying3
 a3:=Tryz.isAgg3
 z3:=Tryz.sizeOf3
 v3:=Tryz.zeroValue3
 t4:=Tryz.underlying4
 a4:=Tryz.isAgg4
 z4:=Tryz.sizeOf4
 v4:=Tryz.zeroValue4
 t9:=Tryz.underlying9
 a9:=Tryz.isAgg9
 z9:=Tryz.sizeOf9
 v9:=Tryz.zeroValue9 }
open Go.RowKit in
theorem Tryz.utf8_RuneCountInString (s:ByteArray) (w:World) (hs:s.size<9223372036854775807) :
  Calls Tryz.prog 111 #[.string s] w fun e w'=>e = .returned (.int .i64 (Lib.runeCount s))/\∃ pos,w'=w.iter s pos:=Any.utf8_RuneCountInString Tryz.lays195 s w hs
def Tryz.lays283_ren:Go.Shelf.Ren:=⟨fun|283=>143|n=>n,fun|3=>3|9=>9|4=>4|n=>n,fun|n=>n⟩
theorem Tryz.lays283:Go.Proofs.Lays.n283 Tryz.prog Tryz.lays283_ren := {
 mixed:=by kernel_rfl
 f283:=Tryz.func143.trans (congrArg some (by kernel_rfl))
 t3:=Tryz.underlying3
 a3:=Tryz.isAgg3
 z3:=Tryz.sizeOf3
 v3:=Tryz.zeroValue3
 t4:=Tryz.underlying4
 a4:=Tryz.isAgg4
 z4:=Tryz.sizeOf4
 v4:=Tryz.zeroValue4
 t9:=Tryz.underlying9
 a9:=Tryz.isAgg9
 z9:=Tryz.sizeOf9
 v9:=Tryz.zeroValue9 }
open Go.Lib in
theorem Tryz.internal_strconv_small (i:Nat) (h:i<100) (w:World) :
  Calls Tryz.prog 143 #[.int .i64 i] w fun e w'=>e = .returned (.string ⟨(Lib.decDigits i).toArray⟩)/\w'=w:=Any.internal_strconv_small Tryz.lays283 i h w
def Tryz.laysM284_ren:Go.Shelf.Ren:=⟨fun|284=>144|129=>155|317=>154|318=>156|n=>n,fun|53=>114|3=>3|212=>198|0=>0|4=>4|46=>153|5=>5|9=>9|n=>n,fun|17=>4|n=>n⟩
theorem Tryz.laysM284:Go.Proofs.LaysM.n284 Tryz.prog Tryz.laysM284_ren := {
 mixed:=by kernel_rfl
 f129:=Tryz.func155.trans (congrArg some (by kernel_rfl))
 f284:=Tryz.func144.trans (congrArg some (by kernel_rfl))
 f317:=Tryz.func154.trans (congrArg some (by kernel_rfl))
 f318:=Tryz.func156.trans (congrArg some (by kernel_rfl))
 t0:=Tryz.underlying0
 a0:=Tryz.isAgg0
 z0:=Tryz.sizeOf0
 v0:=Tryz.zeroValue0
 t3:=Tryz.underlying3
 a3:=Tryz.isAgg3
 z3:=Tryz.sizeOf3
 v3:=Tryz.zeroValue3
 t4:=Tryz.underlying4
 a4:=Tryz.isAgg4
 z4:=Tryz.sizeOf4
 v4:=Tryz.zeroValue4
 t5:=Tryz.underlying5
 a5:=Tryz.isAgg5
 z5:=Tryz.sizeOf5
 v5:=Tryz.zeroValue5
 t9:=Tryz.underlying9
 a9:=Tryz.isAgg9
 z9:=Tryz.sizeOf9
 v9:=Tryz.zeroValue9
 t46:=Tryz.underlying153
 a46:=Tryz.isAgg153
 z46:=Tryz.sizeOf153
 v46:=Tryz.zeroValue153
 t53:=Tryz.underlying114
 a53:=Tryz.isAgg114
 z53:=Tryz.sizeOf114
 v53:=Tryz.zeroValue114
 t212:=Tryz.underlying198
 a212:=Tryz.isAgg198
 z212:=Tryz.sizeOf198
 v212:=Tryz.zeroValue198
 g17:=by kernel_rfl
 i0:=by kernel_rfl
 i3:=by kernel_rfl
 i4:=by kernel_rfl
 i5:=by kernel_rfl
 i9:=by kernel_rfl
 i46:=by kernel_rfl
 i53:=by kernel_rfl
 i212:=by kernel_rfl
 m17:=by kernel_rfl }
open Go.Lib in
theorem Tryz.internal_strconv_numDigits (u : Nat) (h1 : 1 ≤ u) (h2 : u < 18446744073709551616) (w : World) (htab : Lib.TabIs Tryz.prog w "internal/strconv.uint64pow10" .u64 Lib.pow10Tab) :
  Calls Tryz.prog 144 #[.int .u64 u] w fun e w'=>e = .returned (.int .i64 (Lib.nDigits u))/\w'=w:=Any.internal_strconv_numDigits Tryz.laysM284 u h1 h2 w htab
def Tryz.lays285_ren:Go.Shelf.Ren:=⟨fun|285=>145|n=>n,fun|37=>109|53=>114|3=>3|4=>4|51=>175|9=>9|5=>5|0=>0|n=>n,fun|n=>n⟩
theorem Tryz.lays285:Go.Proofs.Lays.n285 Tryz.prog Tryz.lays285_ren := {
 mixed:=by kernel_rfl
 f285:=Tryz.func145.trans (congrArg some (by kernel_rfl))
 t0:=Tryz.underlying0
 a0:=Tryz.isAgg0
 z0:=Tryz.sizeOf0
 v0:=Tryz.zeroValue0
 t3:=Tryz.underlying3
 a3:=Tryz.isAgg3
 z3:=Tryz.sizeOf3
 v3:=Tryz.zeroValue3
 t4:=Tryz.underlying4
 a4:=Tryz.isAgg4
 z4:=Tryz.sizeOf4
 v4:=Tryz.zeroValue4
 t5:=Tryz.underlying5
 a5:=Tryz.isAgg5
 z5:=Tryz.sizeOf5
 v5:=Tryz.zeroValue5
 t9:=Tryz.underlying9
 a9:=Tryz.isAgg9
 z9:=Tryz.sizeOf9
 v9:=Tryz.zeroValue9
 t37:=Tryz.underlying109
 a37:=Tryz.isAgg109
 z37:=Tryz.sizeOf109
 v37:=Tryz.zeroValue109
 t51:=Tryz.underlying175
 a51:=Tryz.isAgg175
 z51:=Tryz.sizeOf175
 v51:=Tryz.zeroValue175
 t53:=Tryz.underlying114
 a53:=Tryz.isAgg114
 z53:=Tryz.sizeOf114
 v53:=Tryz.zeroValue114 }
open Go.RowKit Go.Sort Go.Lib in
theorem Tryz.internal_strconv_formatBase10 (blk off cap:Nat) (u:Nat) (d:Array UInt8) (w:World) (hH:Holds (fun (b:UInt8)=>Value.int .u8 (b.toNat:Int)) w blk off d) (hu:u<10 ^ d.size) (hu64:u<18446744073709551616) (hsz:d.size<4611686018427387904) :
  Calls Tryz.prog 145 #[.slice (some ⟨blk,off,none⟩) d.size cap,.int .u64 u] w fun e w'=>
   e = .returned (.tuple #[])/\∃ (n v':Nat) (dk:Array UInt8),w'=(putRow (fun (b:UInt8)=>Value.int .u8 (b.toNat:Int)) w blk off dk).drewN n/\FmtInv d.size u 0 v' dk:=Any.internal_strconv_formatBase10 Tryz.lays285 blk off cap u d w hH hu hu64 hsz
def Tryz.lays219_ren:Go.Shelf.Ren:=⟨fun|219=>115|217=>137|225=>138|224=>139|267=>140|266=>151|314=>152|n=>n,fun|9=>9|3=>3|4=>4|5=>5|46=>153|146=>176|51=>175|n=>n,fun|1=>0|n=>n⟩
theorem Tryz.lays219:Go.Proofs.Lays.n219 Tryz.prog Tryz.lays219_ren := {
 mixed:=by kernel_rfl
 f217:=Tryz.func137.trans (congrArg some (by kernel_rfl))
 f219:=Tryz.func115.trans (congrArg some (by kernel_rfl))
 f224:=Tryz.func139.trans (congrArg some (by kernel_rfl))
 f225:=Tryz.func138.trans (congrArg some (by kernel_rfl))
 f266:=Tryz.func151.trans (congrArg some (by kernel_rfl))
 f267:=Tryz.func140.trans (congrArg some (by kernel_rfl))
 f314:=Tryz.func152.trans (congrArg some (by kernel_rfl))
 t3:=Tryz.underlying3
 a3:=Tryz.isAgg3
 z3:=Tryz.sizeOf3
 v3:=Tryz.zeroValue3
 t4:=Tryz.underlying4
 a4:=Tryz.isAgg4
 z4:=Tryz.sizeOf4
 v4:=Tryz.zeroValue4
 t5:=Tryz.underlying5
 a5:=Tryz.isAgg5
 z5:=Tryz.sizeOf5
 v5:=Tryz.zeroValue5
 t9:=Tryz.underlying9
 a9:=Tryz.isAgg9
 z9:=Tryz.sizeOf9
 v9:=Tryz.zeroValue9
 t46:=Tryz.underlying153
 a46:=Tryz.isAgg153
 z46:=Tryz.sizeOf153
 v46:=Tryz.zeroValue153
 t51:=Tryz.underlying175
 a51:=Tryz.isAgg175
 z51:=Tryz.sizeOf175
 v51:=Tryz.zeroValue175
 t146:=Tryz.underlying176
 a146:=Tryz.isAgg176
 z146:=Tryz.sizeOf176
 v146:=Tryz.zeroValue176
 g1:=by kernel_rfl }
open Go.RowKit Go.Lib in
theorem Tryz.stringslite_Index_one (s:ByteArray) (c:UInt8) (w:World) :
  Calls Tryz.prog 115 #[.string s,.string ⟨#[c]⟩] w fun e w'=>e = .returned (.int .i64 (Lib.indexByte s.data.toList c))/\w'=w:=Any.stringslite_Index_one Tryz.lays219 s c w
def Tryz.lays143_ren:Go.Shelf.Ren:=⟨fun|143=>85|219=>115|217=>137|225=>138|224=>139|267=>140|266=>151|314=>152|n=>n,fun|9=>9|3=>3|4=>4|5=>5|46=>153|146=>176|51=>175|n=>n,fun|1=>0|n=>n⟩
theorem Tryz.lays143:Go.Proofs.Lays.n143 Tryz.prog Tryz.lays143_ren := {
 mixed:=by kernel_rfl
 f143:=Tryz.func85.trans (congrArg some (by kernel_rfl))
 f217:=Tryz.func137.trans (congrArg some (by kernel_rfl))
 f219:=Tryz.func115.trans (congrArg some (by kernel_rfl))
 f224:=Tryz.func139.trans (congrArg some (by kernel_rfl))
 f225:=Tryz.func138.trans (congrArg some (by kernel_rfl))
 f266:=Tryz.func151.trans (congrArg some (by kernel_rfl))
 f267:=Tryz.func140.trans (congrArg some (by kernel_rfl))
 f314:=Tryz.func152.trans (congrArg some (by kernel_rfl))
 t3:=Tryz.underlying3
 a3:=Tryz.isAgg3
 z3:=Tryz.sizeOf3
 v3:=Tryz.zeroValue3
 t4:=Tryz.underlying4
 a4:=Tryz.isAgg4
 z4:=Tryz.sizeOf4
 v4:=Tryz.zeroValue4
 t5:=Tryz.underlying5
 a5:=Tryz.isAgg5
 z5:=Tryz.sizeOf5
 v5:=Tryz.zeroValue5
 t9:=Tryz.underlying9
 a9:=Tryz.isAgg9
 z9:=Tryz.sizeOf9
 v9:=Tryz.zeroValue9
 t46:=Tryz.underlying153
 a46:=Tryz.isAgg153
 z46:=Tryz.sizeOf153
 v46:=Tryz.zeroValue153
 t51:=Tryz.underlying175
 a51:=Tryz.isAgg175
 z51:=Tryz.sizeOf175
 v51:=Tryz.zeroValue175
 t146:=Tryz.underlying176
 a146:=Tryz.isAgg176
 z146:=Tryz.sizeOf176
 v146:=Tryz.zeroValue176
 g1:=by kernel_rfl }
open Go.RowKit Go.Lib in
theorem Tryz.strings_Index (s sub:ByteArray) (m:Int) (w:World) (hs:s.size<4294967281) (hm:w.cell? ⟨0,0,none⟩=some (.int .i64 m)) :
  Calls Tryz.prog 85 #[.string s,.string sub] w fun e w'=>e = .returned (.int .i64 (Lib.index s.data.toList sub.data.toList))/\w'=w:=Any.strings_Index Tryz.lays143 s sub m w hs hm
def Tryz.lays145_ren:Go.Shelf.Ren:=⟨fun|145=>88|220=>117|219=>115|217=>137|225=>138|224=>139|267=>140|266=>151|314=>152|n=>n,fun|9=>9|4=>4|59=>135|3=>3|5=>5|46=>153|146=>176|51=>175|n=>n,fun|1=>0|n=>n⟩
theorem Tryz.lays145:Go.Proofs.Lays.n145 Tryz.prog Tryz.lays145_ren := {
 mixed:=by kernel_rfl
 f145:=Tryz.func88.trans (congrArg some (by kernel_rfl))
 f217:=Tryz.func137.trans (congrArg some (by kernel_rfl))
 f219:=Tryz.func115.trans (congrArg some (by kernel_rfl))
 f220:=Tryz.func117.trans (congrArg some (by kernel_rfl))
 f224:=Tryz.func139.trans (congrArg some (by kernel_rfl))
 f225:=Tryz.func138.trans (congrArg some (by kernel_rfl))
 f266:=Tryz.func151.trans (congrArg some (by kernel_rfl))
 f267:=Tryz.func140.trans (congrArg some (by kernel_rfl))
 f314:=Tryz.func152.trans (congrArg some (by kernel_rfl))
 t3:=Tryz.underlying3
 a3:=Tryz.isAgg3
 z3:=Tryz.sizeOf3
 v3:=Tryz.zeroValue3
 t4:=Tryz.underlying4
 a4:=Tryz.isAgg4
 z4:=Tryz.sizeOf4
 v4:=Tryz.zeroValue4
 t5:=Tryz.underlying5
 a5:=Tryz.isAgg5
 z5:=Tryz.sizeOf5
 v5:=Tryz.zeroValue5
 t9:=Tryz.underlying9
 a9:=Tryz.isAgg9
 z9:=Tryz.sizeOf9
 v9:=Tryz.zeroValue9
 t46:=Tryz.underlying153
 a46:=Tryz.isAgg153
 z46:=Tryz.sizeOf153
 v46:=Tryz.zeroValue153
 t51:=Tryz.underlying175
 a51:=Tryz.isAgg175
 z51:=Tryz.sizeOf175
 v51:=Tryz.zeroValue175
 t59:=Tryz.underlying135
 a59:=Tryz.isAgg135
 z59:=Tryz.sizeOf135
 v59:=Tryz.zeroValue135
 t146:=Tryz.underlying176
 a146:=Tryz.isAgg176
 z146:=Tryz.sizeOf176
 v146:=Tryz.zeroValue176
 g1:=by kernel_rfl }
open Go.RowKit Go.Lib in
theorem Tryz.strings_Cut (s sep:ByteArray) (m:Int) (w:World) (hs:s.size<4294967281) (hm:w.cell? ⟨0,0,none⟩=some (.int .i64 m)) :
  Calls Tryz.prog 88 #[.string s,.string sep] w fun e w'=>e = .returned (.tuple #[.string ⟨(Lib.cut s.data.toList sep.data.toList).1.toArray⟩,.string ⟨(Lib.cut s.data.toList sep.data.toList).2.1.toArray⟩,.bool (Lib.cut s.data.toList sep.data.toList).2.2])/\∃ n,w'=w.drewN n:=Any.strings_Cut Tryz.lays145 s sep m w hs hm
def Tryz.lays197_ren:Go.Shelf.Ren:=⟨fun|197=>97|260=>122|n=>n,fun|9=>9|21=>21|3=>3|4=>4|5=>5|105=>142|119=>183|0=>0|46=>153|139=>186|138=>185|n=>n,fun|3=>1|4=>2|n=>n⟩
theorem Tryz.lays197:Go.Proofs.Lays.n197 Tryz.prog Tryz.lays197_ren := {
 mixed:=by kernel_rfl
 f197:=Tryz.func97.trans (congrArg some (by kernel_rfl))
 f260:=Tryz.func122.trans (congrArg some (by kernel_rfl))
 t0:=Tryz.underlying0
 a0:=Tryz.isAgg0
 z0:=Tryz.sizeOf0
 v0:=Tryz.zeroValue0
 t3:=Tryz.underlying3
 a3:=Tryz.isAgg3
 z3:=Tryz.sizeOf3
 v3:=Tryz.zeroValue3
 t4:=Tryz.underlying4
 a4:=Tryz.isAgg4
 z4:=Tryz.sizeOf4
 v4:=Tryz.zeroValue4
 t5:=Tryz.underlying5
 a5:=Tryz.isAgg5
 z5:=Tryz.sizeOf5
 v5:=Tryz.zeroValue5
 t9:=Tryz.underlying9
 a9:=Tryz.isAgg9
 z9:=Tryz.sizeOf9
 v9:=Tryz.zeroValue9
 t21:=Tryz.underlying21
 a21:=Tryz.isAgg21
 z21:=Tryz.sizeOf21
 v21:=Tryz.zeroValue21
 t46:=Tryz.underlying153
 a46:=Tryz.isAgg153
 z46:=Tryz.sizeOf153
 v46:=Tryz.zeroValue153
 t105:=Tryz.underlying142
 a105:=Tryz.isAgg142
 z105:=Tryz.sizeOf142
 v105:=Tryz.zeroValue142
 t119:=Tryz.underlying183
 a119:=Tryz.isAgg183
 z119:=Tryz.sizeOf183
 t138:=Tryz.underlying185
 a138:=Tryz.isAgg185
 z138:=Tryz.sizeOf185
 v138:=Tryz.zeroValue185
 t139:=Tryz.underlying186
 a139:=Tryz.isAgg186
 z139:=Tryz.sizeOf186
 v139:=Tryz.zeroValue186
 g3:=by kernel_rfl
 g4:=by kernel_rfl }
def Tryz.lays264_ren:Go.Shelf.Ren:=⟨fun|264=>116|n=>n,fun|53=>114|46=>153|n=>n,fun|n=>n⟩
theorem Tryz.lays264:Go.Proofs.Lays.n264 Tryz.prog Tryz.lays264_ren := {
 mixed:=by kernel_rfl
 f264:=Tryz.func116.trans (congrArg some (by kernel_rfl))
 t46:=Tryz.underlying153
 a46:=Tryz.isAgg153
 z46:=Tryz.sizeOf153
 v46:=Tryz.zeroValue153
 t53:=Tryz.underlying114
 a53:=Tryz.isAgg114
 z53:=Tryz.sizeOf114
 v53:=Tryz.zeroValue114 }
open Go.RowKit Go.Lib in
theorem Tryz.bits_Mul64 (x y:Nat) (hx:x<18446744073709551616) (hy:y<18446744073709551616) (w:World) :
  Calls Tryz.prog 116 #[.int .u64 x,.int .u64 y] w fun e w'=>e = .returned (.tuple #[.int .u64 ((x*y / 18446744073709551616:Nat):Int),.int .u64 ((x*y % 18446744073709551616:Nat):Int)])/\w'=w:=Any.bits_Mul64 Tryz.lays264 x y hx hy w
def Tryz.lays105_ren:Go.Shelf.Ren:=⟨fun|105=>84|212=>112|99=>113|165=>114|166=>89|170=>90|169=>91|263=>134|264=>116|206=>135|240=>118|241=>136|276=>141|277=>150|n=>n,fun|9=>9|3=>3|4=>4|20=>20|0=>0|46=>153|109=>154|5=>5|72=>134|76=>139|51=>175|146=>176|53=>114|148=>158|70=>132|37=>109|75=>138|127=>160|164=>180|80=>120|n=>n,fun|n=>n⟩
theorem Tryz.lays105:Go.Proofs.Lays.n105 Tryz.prog Tryz.lays105_ren := {
 mixed:=by kernel_rfl
 f99:=Tryz.func113.trans (congrArg some (by kernel_rfl))
 f105:=Tryz.func84.trans (congrArg some (by kernel_rfl))
 f165:=Tryz.func114.trans (congrArg some (by kernel_rfl))
 f166:=Tryz.func89.trans (congrArg some (by kernel_rfl))
 f169:=Tryz.func91.trans (congrArg some (by kernel_rfl))
 f170:=Tryz.func90.trans (congrArg some (by kernel_rfl))
 f206:=Tryz.func135.trans (congrArg some (by kernel_rfl))
 f212:=Tryz.func112.trans (congrArg some (by kernel_rfl))
 f240:=Tryz.func118.trans (congrArg some (by kernel_rfl))
 f241:=Tryz.func136.trans (congrArg some (by kernel_rfl))
 f263:=Tryz.func134.trans (congrArg some (by kernel_rfl))
 f264:=Tryz.func116.trans (congrArg some (by kernel_rfl))
 f276:=Tryz.func141.trans (congrArg some (by kernel_rfl))
 f277:=Tryz.func150.trans (congrArg some (by kernel_rfl))
 t0:=Tryz.underlying0
 a0:=Tryz.isAgg0
 z0:=Tryz.sizeOf0
 v0:=Tryz.zeroValue0
 t3:=Tryz.underlying3
 a3:=Tryz.isAgg3
 z3:=Tryz.sizeOf3
 v3:=Tryz.zeroValue3
 t4:=Tryz.underlying4
 a4:=Tryz.isAgg4
 z4:=Tryz.sizeOf4
 v4:=Tryz.zeroValue4
 t5:=Tryz.underlying5
 a5:=Tryz.isAgg5
 z5:=Tryz.sizeOf5
 v5:=Tryz.zeroValue5
 t9:=Tryz.underlying9
 a9:=Tryz.isAgg9
 z9:=Tryz.sizeOf9
 v9:=Tryz.zeroValue9
 t20:=Tryz.underlying20
 a20:=Tryz.isAgg20
 z20:=Tryz.sizeOf20
 v20:=Tryz.zeroValue20
 t37:=Tryz.underlying109
 a37:=Tryz.isAgg109
 z37:=Tryz.sizeOf109
 v37:=Tryz.zeroValue109
 t46:=Tryz.underlying153
 a46:=Tryz.isAgg153
 z46:=Tryz.sizeOf153
 v46:=Tryz.zeroValue153
 t51:=Tryz.underlying175
 a51:=Tryz.isAgg175
 z51:=Tryz.sizeOf175
 v51:=Tryz.zeroValue175
 t53:=Tryz.underlying114
 a53:=Tryz.isAgg114
 z53:=Tryz.sizeOf114
 v53:=Tryz.zeroValue114
 t70:=Tryz.underlying132
 a70:=Tryz.isAgg132
 z70:=Tryz.sizeOf132
 v70:=Tryz.zeroValue132
 t72:=Tryz.underlying134
 a72:=Tryz.isAgg134
 z72:=Tryz.sizeOf134
 v72:=Tryz.zeroValue134
 t75:=Tryz.underlying138
 a75:=Tryz.isAgg138
 z75:=Tryz.sizeOf138
 v75:=Tryz.zeroValue138
 t76:=Tryz.underlying139
 a76:=Tryz.isAgg139
 z76:=Tryz.sizeOf139
 v76:=Tryz.zeroValue139
 t109:=Tryz.underlying154
 a109:=Tryz.isAgg154
 z109:=Tryz.sizeOf154
 v109:=Tryz.zeroValue154
 t127:=Tryz.underlying160
 a127:=Tryz.isAgg160
 z127:=Tryz.sizeOf160
 v127:=Tryz.zeroValue160
 t146:=Tryz.underlying176
 a146:=Tryz.isAgg176
 z146:=Tryz.sizeOf176
 v146:=Tryz.zeroValue176
 t148:=Tryz.underlying158
 a148:=Tryz.isAgg158
 z148:=Tryz.sizeOf158
 v148:=Tryz.zeroValue158
 t164:=Tryz.underlying180
 a164:=Tryz.isAgg180
 z164:=Tryz.sizeOf180
 v164:=Tryz.zeroValue180 }
theorem Tryz.Builder_Extra_105:Builder.Extra Tryz.prog Tryz.lays105_ren := {
 sizeBuilder:=by kernel_rfl
 liesBuilder:=by kernel_rfl
 t5:=Tryz.underlying5
 a5:=Tryz.isAgg5
 z5:=Tryz.sizeOf5
 v5:=Tryz.zeroValue5
 infoByte:=by kernel_rfl
 cellsByte:=by kernel_rfl
 sizeByte:=by kernel_rfl
 neB5:=by decide }
open Go.RowKit Go.Lib in
theorem Tryz.strings_Repeat (s:ByteArray) (c:Nat) (w:World) (hc:c<=9223372036854775807) (hlen:s.size*c<=140737488355328) :
  Calls Tryz.prog 84 #[.string s,.int .i64 c] w fun e w'=>e = .returned (.string ⟨(Lib.repeatL s.data.toList c).toArray⟩)/\Below w.heap.size w w':=Any.strings_Repeat Tryz.lays105 Tryz.Builder_Extra_105 s c w hc hlen
def Tryz.lays260_ren:Go.Shelf.Ren:=⟨fun|260=>122|n=>n,fun|9=>9|21=>21|3=>3|4=>4|5=>5|119=>183|0=>0|46=>153|139=>186|138=>185|n=>n,fun|3=>1|4=>2|n=>n⟩
theorem Tryz.lays260:Go.Proofs.Lays.n260 Tryz.prog Tryz.lays260_ren := {
 mixed:=by kernel_rfl
 f260:=Tryz.func122.trans (congrArg some (by kernel_rfl))
 t0:=Tryz.underlying0
 a0:=Tryz.isAgg0
 z0:=Tryz.sizeOf0
 v0:=Tryz.zeroValue0
 t3:=Tryz.underlying3
 a3:=Tryz.isAgg3
 z3:=Tryz.sizeOf3
 v3:=Tryz.zeroValue3
 t4:=Tryz.underlying4
 a4:=Tryz.isAgg4
 z4:=Tryz.sizeOf4
 v4:=Tryz.zeroValue4
 t5:=Tryz.underlying5
 a5:=Tryz.isAgg5
 z5:=Tryz.sizeOf5
 v5:=Tryz.zeroValue5
 t9:=Tryz.underlying9
 a9:=Tryz.isAgg9
 z9:=Tryz.sizeOf9
 v9:=Tryz.zeroValue9
 t21:=Tryz.underlying21
 a21:=Tryz.isAgg21
 z21:=Tryz.sizeOf21
 v21:=Tryz.zeroValue21
 t46:=Tryz.underlying153
 a46:=Tryz.isAgg153
 z46:=Tryz.sizeOf153
 v46:=Tryz.zeroValue153
 t119:=Tryz.underlying183
 a119:=Tryz.isAgg183
 z119:=Tryz.sizeOf183
 t138:=Tryz.underlying185
 a138:=Tryz.isAgg185
 z138:=Tryz.sizeOf185
 v138:=Tryz.zeroValue185
 t139:=Tryz.underlying186
 a139:=Tryz.isAgg186
 z139:=Tryz.sizeOf186
 v139:=Tryz.zeroValue186
 g3:=by kernel_rfl
 g4:=by kernel_rfl }
open Go.RowKit Go.Lib in
theorem Tryz.utf8_DecodeRuneInString (s:ByteArray) (w:World) (hT:Lib.Utf8Tabs 1 2 w) :
  Calls Tryz.prog 97 #[.string s] w fun e w'=>e = .returned (.tuple #[.int .i32 (Lib.decodeGo s).1,.int .i64 (Lib.decodeGo s).2])/\Below w.heap.size w w':=Any.utf8_DecodeRuneInString Tryz.lays197 s w hT
end Go.Proofs
namespace Go.A
open Go.Proofs
section
variable {P:Program} {σ:ASt} {w:World}
theorem reps_ints {k:IntKind}:∀ {zs:List Int} {vs:List Value},Reps σ w (zs.map (AV.int k)) vs->vs=zs.map (Value.int k)
 | [],vs,h=>by cases h;rfl
 | z::zs,vs,h=>by
   cases h with
   | cons h1 h2=>
     cases h1
     rw [reps_ints h2]
     rfl
theorem tabIs_of (hs:Sim σ w) {name:String} {b:Nat} {k:IntKind} {zs:List Int} (hg:P.globalNamed name=some b) (hb:σ b=some (.fix (zs.map (AV.int k)))):Lib.TabIs P w name k zs:=by
 obtain ⟨h1,c,T,fr,h2,h3⟩:=hs b _ hb
 obtain ⟨vs,h4,h5⟩:=h1.vals
 have h6:=reps_ints h4
 subst h6
 unfold Lib.TabIs World.var?
 rw [hg,Option.bind_some]
 simp only [h2]
 congr 1
 apply Array.ext
 ·simp [h3]
 ·intro j hj hj'
  have h7 := h5 j (Value.int k (zs[j]'(by simpa using hj'))) (by simp)
  simp only [World.cell?,h2,Nat.zero_add] at h7
  simp at h7 ⊢
  obtain ⟨_,h7⟩:=Array.getElem?_eq_some_iff.1 h7
  exact h7
theorem ACalls.of_ext {f:FuncId} {args:List AV} {r:AV} {u:Value} (h:∀ w vs,Sim σ w->Reps σ w args vs->Calls P f ⟨vs⟩ w fun e w'=>e = .returned u/\Ext w w') (hr:∀ w,Rep σ w r u):ACalls P f args σ fun v σ'=>v=r/\σ'=σ:=
 fun w vs hs ha=>(h w vs hs ha).mono fun e w' ⟨he,hx⟩=>⟨u,r,σ,he,⟨rfl,rfl⟩,ext_le hx,hs.ext hx,hr w'⟩
theorem ext_grow (w:World) (k:Nat) (os:Array Obj):Ext w (Go.Sort.grow (w.drewN k) os):=⟨⟨os,w.drawn+k⟩,rfl⟩
end
theorem Ext.of_eq {w w':World} (h:w'=w):Ext w w':=h▸Ext.refl w
def Tab (σ:ASt):Prop:=σ 4=some (.fix (Lib.pow10Tab.map (AV.int .u64)))
theorem Tab.set {σ:ASt} {b:Nat} {r:Option Role} (h:Tab σ) (hb:σ b=none):Tab (σ.set b r):=by
 unfold Tab at *
 rw [ASt.set_ne]
 ·exact h
 ·intro e;rw [<-e,h] at hb;cases hb
end Go.A
namespace Go.A
open Go.Proofs
structure Ref where
 row:Int
 col:Int
 absRow:Bool
 absCol:Bool
 deriving DecidableEq,Inhabited
end Go.A
namespace Go.A
abbrev oq (d:Nat) (x:QOp):AItem:=⟨some d,none,.q x,[]⟩
abbrev oe (d:Nat) (x:EOp):AItem:=⟨some d,none,.e x,[]⟩
abbrev oz (x:EOp):AItem:=⟨none,none,.e x,[]⟩
@[go_sem] theorem run_oq {P:Program} {K:AFr->ASt->Prop} {a:AFr} {σ:ASt} {d:Nat} {q:QOp} {r:List AItem}:runI P (oq d q::r) K a σ=qC P (q.ev a σ) (some d) r K a σ:=run_q
@[go_sem] theorem run_oe {P:Program} {K:AFr->ASt->Prop} {a:AFr} {σ:ASt} {d:Nat} {e:EOp} {r:List AItem}:runI P (oe d e::r) K a σ=e.step P a σ (eK P (some d) [] r K a):=run_e
@[go_sem] theorem run_oz {P:Program} {K:AFr->ASt->Prop} {a:AFr} {σ:ASt} {e:EOp} {r:List AItem}:runI P (oz e::r) K a σ=e.step P a σ (eK P none [] r K a):=run_e
open Go.Proofs
/-! 4: tabular/tabularlaw01.Cut -/
def c4_9:ACode := .seq (.ops [ oq 4 (.mv (.v (.str [])))]) (.seq (.seq (.ops [ oq 5 (.mv (.t 0)),oq 6 (.lenS (.t 5)),oq 7 (.mv (.t 1)),oq 8 (.bin .gtr (.t 6) (.t 7))]) (.cond (.t 8) (.seq (.ops [ oq 9 (.mv (.t 0)),oq 10 (.mv (.t 1)),oq 11 (.slto (true,0) (.t 9) (.t 10)),oq 4 (.mv (.t 11))]) .ret) .skip)) (.seq (.ops [ oq 12 (.mv (.t 0)),oq 4 (.mv (.t 12))]) .ret))
@[go_sem] def c4_9_wp:=wp_of c4_9.eq_1
def c4:AFn:=⟨13,[.t 4],c4_9⟩
theorem c4_ok:compF Tryz.prog Tryz.f4=some c4:=by kernel_rfl
theorem a4 {args:List AV} {σ:ASt} {R:AV->ASt->Prop} (hl:args.length<=13) (h:c4_9.wp Tryz.prog (RetQ [.t 4] R) (init args) σ):ACalls Tryz.prog 4 args σ R:=acalls_of Tryz.func4 c4_ok hl h
end Go.A
namespace Go.A
open Go.Proofs
def greatC (c:UInt8):UInt8:=if 97<=c.toNat/\c.toNat<=122 then UInt8.ofNat (c.toNat-32) else c
def greatP (l:List UInt8):List UInt8:=l.map greatC
end Go.A
namespace Go.A
open Go.Proofs Go.Lib
def signsN (l:List UInt8):Nat:=runeCount ⟨⟨l⟩⟩
inductive Step where
 | bad (k:Nat)
 | blank
 | tok (kind:Int) (text:List UInt8) (n:Nat)
 deriving DecidableEq
structure Tok where
 kind:Int
 text:List UInt8
 at':Nat
 col:Nat
 deriving DecidableEq
def sgF:Nat->List UInt8->Option Nat
 | 0,_=>none
 | k+1,r=>if r = [] then some 0 else if decodeL r=(65533,1) then none else (sgF k (r.drop (decodeL r).2)).map (· + 1)
end Go.A
namespace Go.A
open Go.Proofs Go.Lib
def accTab:List Int:=(List.range 16).flatMap fun i => [(accLo i:Int),(accHi i:Int)]
def U8 (σ:ASt):Prop:=σ 1=some (.fix (firstTab.map (AV.int .u8)))/\σ 2=some (.fix (accTab.map (AV.int .u8)))
theorem U8.of_eq {σ σ':ASt} (h:U8 σ) (h1:σ' 1=σ 1) (h2:σ' 2=σ 2):U8 σ':=⟨h1.trans h.1,h2.trans h.2⟩
theorem U8.set {σ:ASt} {b:Nat} {r:Option Role} (h:U8 σ) (hb:σ b=none):U8 (σ.set b r):=by
 refine h.of_eq (ASt.set_ne ?_) (ASt.set_ne ?_)<;>rintro rfl
 ·rw [h.1] at hb;cases hb
 ·rw [h.2] at hb;cases hb
theorem fix_ints {σ:ASt} {w:World} (hs:Sim σ w) {b:Nat} {k:IntKind} {zs:List Int} (h:σ b=some (.fix (zs.map (AV.int k)))):∀ j z,zs[j]? = some z->w.cell? ⟨b,j,none⟩=some (.int k z):=by
 intro j z hj
 obtain ⟨vs,h4,h5⟩:=(hs b _ h).1.vals
 have h6:=reps_ints h4
 subst h6
 have:=h5 j (Value.int k z) (by simp [hj])
 simpa using this
theorem u8_tabs {σ:ASt} {w:World} (hs:Sim σ w) (h:U8 σ):Utf8Tabs 1 2 w:=by
 refine ⟨fun c hc=>fix_ints hs h.1 c _ (by simp [firstTab,hc]),fun i hi=>?_⟩
 have key:∀ i,i<16->accTab[2*i]? = some (accLo i:Int)/\accTab[2*i+1]? = some (accHi i:Int):=by decide
 exact ⟨fix_ints hs h.2 _ _ (key i hi).1,fix_ints hs h.2 _ _ (key i hi).2⟩
theorem ACalls.of_below {P:Program} {σ:ASt} {f:FuncId} {args:List AV} {r:AV} {u:Value} (h:∀ w vs,Sim σ w->Reps σ w args vs->Calls P f ⟨vs⟩ w fun e w'=>e = .returned u/\RowKit.Below w.heap.size w w') (hr:∀ w,Rep σ w r u):ACalls P f args σ fun v σ'=>v=r/\σ'=σ:=
 ACalls.of_ext (fun w vs hs ha=>(h w vs hs ha).mono fun e w' ⟨he,hb⟩=>⟨he,Ext.of_below hb⟩) hr
theorem dec_ok {σ:ASt} (h:U8 σ) {l:List UInt8} (h0:l ≠ []):ACalls Tryz.prog 97 [.str l] σ fun v σ'=>v = .tuple [.int .i32 (decodeL l).1,.int .i64 (decodeL l).2]/\σ'=σ:=by
 refine ACalls.of_below (u := .tuple #[.int .i32 (decodeL l).1,.int .i64 (decodeL l).2]) (fun w vs hs ha=>?_) fun w => .tuple (.cons (.int _ _) (.cons (.int _ _) .nil))
 cases ha with
 | cons h1 h2=>
 cases h1;cases h2
 have:=Tryz.utf8_DecodeRuneInString ⟨⟨l⟩⟩ w (u8_tabs hs h)
 have e:decodeGo ⟨⟨l⟩⟩=decodeL l:=by
  unfold decodeGo decodeL
  rw [if_neg (by cases l;exact absurd rfl h0;simp [ByteArray.size])]
 rw [e] at this
 exact this
theorem count_ok (l:List UInt8) (hl:l.length<9223372036854775807):Pure Tryz.prog 111 [.str l] (.int .i64 (signsN l)):=by
 intro σ
 refine ACalls.of_ext (u := .int .i64 (signsN l)) (fun w vs hs ha=>?_) fun w => .int _ _
 cases ha with
 | cons h1 h2=>
 cases h1;cases h2
 refine (Tryz.utf8_RuneCountInString ⟨⟨l⟩⟩ w (by simpa [ByteArray.size] using hl)).mono ?_
 rintro e w' ⟨rfl,pos,rfl⟩
 exact ⟨rfl,Ext.alloc (Ext.refl w) _⟩
end Go.A
namespace Go.A
open Go.Proofs
/-! 71: tabular/tabularref11.Sign -/
def c71_47:ACode := .seq (.seq (.ops [ oq 42 (.mv (.t 5)),oq 43 (.bin .geq (.t 42) (.v (.int .i64 224))),oq 44 (.mv (.t 43)),⟨some 45,some (44,true),.q (.mv (.t 5)),[]⟩,⟨some 46,some (44,true),.q (.bin .leq (.t 45) (.v (.int .i64 239))),[]⟩,oq 47 (.pick (.t 44) (.t 46) (.v (.bool false))),oq 48 (.mv (.t 47)),⟨some 49,some (48,true),.q (.mv (.t 0)),[]⟩,⟨some 50,some (48,true),.q (.mv (.t 1)),[]⟩,⟨some 51,some (48,true),.q (.bin .add (.t 50) (.v (.int .i64 1))),[]⟩,⟨some 52,some (48,true),.q (.mv (.t 6)),[]⟩,⟨some 53,some (48,true),.q (.mv (.t 7)),[]⟩,⟨some 54,some (48,true),.e (.call 102 [(.t 49),(.t 51),(.t 52),(.t 53)]),[]⟩,oq 55 (.pick (.t 48) (.t 54) (.v (.bool false))),oq 56 (.mv (.t 55)),⟨some 57,some (56,true),.q (.mv (.t 0)),[]⟩,⟨some 58,some (56,true),.q (.mv (.t 1)),[]⟩,⟨some 59,some (56,true),.q (.bin .add (.t 58) (.v (.int .i64 2))),[]⟩,⟨some 60,some (56,true),.e (.call 102 [(.t 57),(.t 59),(.v (.int .i64 128)),(.v (.int .i64 191))]),[]⟩,oq 61 (.pick (.t 56) (.t 60) (.v (.bool false)))]) (.cond (.t 61) (.seq (.ops [ oq 4 (.mv (.v (.int .i64 3)))]) .ret) .skip)) (.seq (.seq (.ops [ oq 62 (.mv (.t 5)),oq 63 (.bin .geq (.t 62) (.v (.int .i64 240))),oq 64 (.mv (.t 63)),⟨some 65,some (64,true),.q (.mv (.t 5)),[]⟩,⟨some 66,some (64,true),.q (.bin .leq (.t 65) (.v (.int .i64 244))),[]⟩,oq 67 (.pick (.t 64) (.t 66) (.v (.bool false))),oq 68 (.mv (.t 67)),⟨some 69,some (68,true),.q (.mv (.t 0)),[]⟩,⟨some 70,some (68,true),.q (.mv (.t 1)),[]⟩,⟨some 71,some (68,true),.q (.bin .add (.t 70) (.v (.int .i64 1))),[]⟩,⟨some 72,some (68,true),.q (.mv (.t 6)),[]⟩,⟨some 73,some (68,true),.q (.mv (.t 7)),[]⟩,⟨some 74,some (68,true),.e (.call 102 [(.t 69),(.t 71),(.t 72),(.t 73)]),[]⟩,oq 75 (.pick (.t 68) (.t 74) (.v (.bool false))),oq 76 (.mv (.t 75)),⟨some 77,some (76,true),.q (.mv (.t 0)),[]⟩,⟨some 78,some (76,true),.q (.mv (.t 1)),[]⟩,⟨some 79,some (76,true),.q (.bin .add (.t 78) (.v (.int .i64 2))),[]⟩,⟨some 80,some (76,true),.e (.call 102 [(.t 77),(.t 79),(.v (.int .i64 128)),(.v (.int .i64 191))]),[]⟩,oq 81 (.pick (.t 76) (.t 80) (.v (.bool false))),oq 82 (.mv (.t 81)),⟨some 83,some (82,true),.q (.mv (.t 0)),[]⟩,⟨some 84,some (82,true),.q (.mv (.t 1)),[]⟩,⟨some 85,some (82,true),.q (.bin .add (.t 84) (.v (.int .i64 3))),[]⟩,⟨some 86,some (82,true),.e (.call 102 [(.t 83),(.t 85),(.v (.int .i64 128)),(.v (.int .i64 191))]),[]⟩,oq 87 (.pick (.t 82) (.t 86) (.v (.bool false)))]) (.cond (.t 87) (.seq (.ops [ oq 4 (.mv (.v (.int .i64 4)))]) .ret) .skip)) (.seq (.ops [ oq 4 (.mv (.v (.int .i64 0)))]) .ret))
def c71_52:ACode := .seq (.ops [ oq 6 (.mv (.v (.int .i64 128))),oq 7 (.mv (.v (.int .i64 191)))]) (.seq (.seq (.ops [ oq 30 (.mv (.t 5)),oq 31 (.bin .eql (.t 30) (.v (.int .i64 224))),oq 32 (.mv (.t 31)),⟨some 33,some (32,false),.q (.mv (.t 5)),[]⟩,⟨some 34,some (32,false),.q (.bin .eql (.t 33) (.v (.int .i64 240))),[]⟩,oq 35 (.pick (.t 32) (.v (.bool true)) (.t 34))]) (.cond (.t 35) (.ops [ oq 6 (.mv (.v (.int .i64 160)))]) .skip)) (.seq (.seq (.ops [ oq 36 (.mv (.t 5)),oq 37 (.bin .eql (.t 36) (.v (.int .i64 240)))]) (.cond (.t 37) (.ops [ oq 6 (.mv (.v (.int .i64 144)))]) .skip)) (.seq (.seq (.ops [ oq 38 (.mv (.t 5)),oq 39 (.bin .eql (.t 38) (.v (.int .i64 237)))]) (.cond (.t 39) (.ops [ oq 7 (.mv (.v (.int .i64 159)))]) .skip)) (.seq (.seq (.ops [ oq 40 (.mv (.t 5)),oq 41 (.bin .eql (.t 40) (.v (.int .i64 244)))]) (.cond (.t 41) (.ops [ oq 7 (.mv (.v (.int .i64 143)))]) .skip)) c71_47))))
def c71_57:ACode := .seq (.ops [ oq 4 (.mv (.v (.int .i64 0)))]) (.seq (.seq (.ops [ oq 8 (.mv (.t 1)),oq 9 (.mv (.t 0)),oq 10 (.lenS (.t 9)),oq 11 (.bin .geq (.t 8) (.t 10))]) (.cond (.t 11) (.seq (.ops [ oq 4 (.mv (.v (.int .i64 0)))]) .ret) .skip)) (.seq (.ops [ oq 12 (.mv (.t 0)),oq 13 (.mv (.t 1)),oq 14 (.idx (.t 12) (.t 13)),oq 15 (.conv .i64 (.t 14)),oq 5 (.mv (.t 15))]) (.seq (.seq (.ops [ oq 16 (.mv (.t 5)),oq 17 (.bin .lss (.t 16) (.v (.int .i64 128)))]) (.cond (.t 17) (.seq (.ops [ oq 4 (.mv (.v (.int .i64 1)))]) .ret) .skip)) (.seq (.seq (.ops [ oq 18 (.mv (.t 5)),oq 19 (.bin .geq (.t 18) (.v (.int .i64 194))),oq 20 (.mv (.t 19)),⟨some 21,some (20,true),.q (.mv (.t 5)),[]⟩,⟨some 22,some (20,true),.q (.bin .leq (.t 21) (.v (.int .i64 223))),[]⟩,oq 23 (.pick (.t 20) (.t 22) (.v (.bool false))),oq 24 (.mv (.t 23)),⟨some 25,some (24,true),.q (.mv (.t 0)),[]⟩,⟨some 26,some (24,true),.q (.mv (.t 1)),[]⟩,⟨some 27,some (24,true),.q (.bin .add (.t 26) (.v (.int .i64 1))),[]⟩,⟨some 28,some (24,true),.e (.call 102 [(.t 25),(.t 27),(.v (.int .i64 128)),(.v (.int .i64 191))]),[]⟩,oq 29 (.pick (.t 24) (.t 28) (.v (.bool false)))]) (.cond (.t 29) (.seq (.ops [ oq 4 (.mv (.v (.int .i64 2)))]) .ret) .skip)) c71_52))))
@[go_sem] def c71_47_wp:=wp_of c71_47.eq_1
@[go_sem] def c71_52_wp:=wp_of c71_52.eq_1
@[go_sem] def c71_57_wp:=wp_of c71_57.eq_1
def c71:AFn:=⟨88,[.t 4],c71_57⟩
theorem c71_ok:compF Tryz.prog Tryz.f71=some c71:=by kernel_rfl
theorem a71 {args:List AV} {σ:ASt} {R:AV->ASt->Prop} (hl:args.length<=88) (h:c71_57.wp Tryz.prog (RetQ [.t 4] R) (init args) σ):ACalls Tryz.prog 71 args σ R:=acalls_of Tryz.func71 c71_ok hl h
/-! 102: tabular/tabularref11.more -/
def c102_3:ACode := .seq (.ops [ oq 8 (.mv (.v (.bool false)))]) (.seq (.ops [ oq 9 (.mv (.t 1)),oq 10 (.mv (.t 0)),oq 11 (.lenS (.t 10)),oq 12 (.bin .lss (.t 9) (.t 11)),oq 13 (.mv (.t 12)),⟨some 14,some (13,true),.q (.mv (.t 0)),[]⟩,⟨some 15,some (13,true),.q (.mv (.t 1)),[]⟩,⟨some 16,some (13,true),.q (.idx (.t 14) (.t 15)),[]⟩,⟨some 17,some (13,true),.q (.conv .i64 (.t 16)),[]⟩,⟨some 18,some (13,true),.q (.mv (.t 2)),[]⟩,⟨some 19,some (13,true),.q (.bin .geq (.t 17) (.t 18)),[]⟩,oq 20 (.pick (.t 13) (.t 19) (.v (.bool false))),oq 21 (.mv (.t 20)),⟨some 22,some (21,true),.q (.mv (.t 0)),[]⟩,⟨some 23,some (21,true),.q (.mv (.t 1)),[]⟩,⟨some 24,some (21,true),.q (.idx (.t 22) (.t 23)),[]⟩,⟨some 25,some (21,true),.q (.conv .i64 (.t 24)),[]⟩,⟨some 26,some (21,true),.q (.mv (.t 3)),[]⟩,⟨some 27,some (21,true),.q (.bin .leq (.t 25) (.t 26)),[]⟩,oq 28 (.pick (.t 21) (.t 27) (.v (.bool false))),oq 8 (.mv (.t 28))]) .ret)
@[go_sem] def c102_3_wp:=wp_of c102_3.eq_1
def c102:AFn:=⟨29,[.t 8],c102_3⟩
theorem c102_ok:compF Tryz.prog Tryz.f102=some c102:=by kernel_rfl
theorem a102 {args:List AV} {σ:ASt} {R:AV->ASt->Prop} (hl:args.length<=29) (h:c102_3.wp Tryz.prog (RetQ [.t 8] R) (init args) σ):ACalls Tryz.prog 102 args σ R:=acalls_of Tryz.func102 c102_ok hl h
end Go.A
section
attribute [local go_sem] reduceCtorEq Nat.reduceEqDiff Nat.reduceAdd Nat.reduceSub Nat.reduceMul Nat.reduceLeDiff Int.reduceLT Int.reduceLE Int.reduceEq Int.reduceNeg Int.reduceAdd Int.reduceSub Int.reduceMul true_imp_iff forall_const Nat.mul_one Int.reduceToNat Nat.reducePow Int.reducePow Bool.true_and Bool.false_and Bool.and_false
attribute [local go_sem ↓] reduceIte
namespace Go.A
open Go.Proofs Go.Lib
theorem sgF_step {k:Nat} {r:List UInt8} (h0:r ≠ []) (hv:decodeL r≠(65533,1)):sgF (k+1) r=(sgF k (r.drop (decodeL r).2)).map (· + 1):=by
 rw [sgF,if_neg h0,if_neg hv]
theorem sgT_fuel:∀ (k m:Nat) (r:List UInt8),r.length<k->r.length<m->sgF k r=sgF m r
 | 0,_,r,h,_=>absurd h (Nat.not_lt_zero _)
 | _,0,r,_,h=>absurd h (Nat.not_lt_zero _)
 | k+1,m+1,r,h1,h2=>by
   rw [sgF,sgF]
   by_cases h0:r = []
   ·rw [if_pos h0,if_pos h0]
   ·rw [if_neg h0,if_neg h0]
    split
    ·rfl
    ·have hw:=decodeL_width r
     have hl:=List.length_pos_iff.2 h0
     rw [sgT_fuel k m _ (by rw [List.length_drop];omega) (by rw [List.length_drop];omega)]
def sgT (r:List UInt8):Option Nat:=sgF (r.length+1) r
theorem sgT_nil:sgT []=some 0:=rfl
theorem sgT_bad {r:List UInt8} (h0:r ≠ []) (hv:decodeL r=(65533,1)):sgT r=none:=by
 unfold sgT
 rw [sgF,if_neg h0,if_pos hv]
theorem sgT_step {r:List UInt8} (h0:r ≠ []) (hv:decodeL r≠(65533,1)):sgT r=(sgT (r.drop (decodeL r).2)).map (· + 1):=by
 unfold sgT
 rw [sgF_step h0 hv]
 have hw:=decodeL_width r
 have hl:=List.length_pos_iff.2 h0
 rw [sgT_fuel r.length ((r.drop (decodeL r).2).length+1) _ (by rw [List.length_drop];omega) (by omega)]
def sgAV (s:List UInt8):AV:=match sgT s with
 | some n => .tuple [.int .i64 n,.bool true]
 | none => .tuple [.int .i64 0,.bool false]
def moreP (s:List UInt8) (at' lo hi:Nat):Bool:=decide (at'<s.length/\lo<=(s.getD at' 0).toNat/\(s.getD at' 0).toNat<=hi)
theorem more_ok (s:List UInt8) (at' lo hi:Nat) (ha:at'<=9000000000000000000):Pure Tryz.prog 102 [.str s,.int .i64 at',.int .i64 lo,.int .i64 hi] (.bool (moreP s at' lo hi)):=by
 intro σ
 refine a102 (by simp) ?_
 unfold moreP
 by_cases h:at'<s.length
 ·have h':(at':Int)<s.length:=by omega
  have hx : s[at']? = some (s[at']'h) := List.getElem?_eq_getElem h
  obtain ⟨c, hc⟩ : ∃ c, s[at']'h = c := ⟨_, rfl⟩
  rw [hc] at hx
  have hg:s.getD at' 0=c:=by rw [List.getD_eq_getElem?_getD,hx];rfl
  rw [hg]
  have hcb:=u8_lt c
  by_cases h1:lo<=c.toNat
  ·have h1':(lo:Int)<=c.toNat:=by omega
   by_cases h2:c.toNat<=hi
   ·have h2':(c.toNat:Int)<=hi:=by omega
    rw [decide_eq_true ⟨h,h1,h2⟩]
    simp (disch:=first|assumption|omega|(simp only [List.length_append,List.length_cons,List.length_nil];omega)) only [go_sem,h',hx,h1',h2']
    exact retC_by (by repeat' (first|exact Drop.refl _|with_reducible refine Drop.off ?_ (by assumption))) (.refl _) ⟨rfl,rfl⟩
   ·have h2':¬ (c.toNat:Int)<=hi:=by omega
    rw [decide_eq_false (fun h=>h2 h.2.2)]
    simp (disch:=first|assumption|omega|(simp only [List.length_append,List.length_cons,List.length_nil];omega)) only [go_sem,h',hx,h1',h2']
    exact retC_by (by repeat' (first|exact Drop.refl _|with_reducible refine Drop.off ?_ (by assumption))) (.refl _) ⟨rfl,rfl⟩
  ·have h1':¬ (lo:Int)<=c.toNat:=by omega
   rw [decide_eq_false (fun h=>h1 h.2.1)]
   simp (disch:=first|assumption|omega|(simp only [List.length_append,List.length_cons,List.length_nil];omega)) only [go_sem,h',hx,h1']
   exact retC_by (by repeat' (first|exact Drop.refl _|with_reducible refine Drop.off ?_ (by assumption))) (.refl _) ⟨rfl,rfl⟩
 ·have h':¬ (at':Int)<s.length:=by omega
  rw [decide_eq_false (fun h2=>h h2.1)]
  simp (disch:=first|assumption|omega|(simp only [List.length_append,List.length_cons,List.length_nil];omega)) only [go_sem,h']
  exact retC_by (by repeat' (first|exact Drop.refl _|with_reducible refine Drop.off ?_ (by assumption))) (.refl _) ⟨rfl,rfl⟩
def sigL (r:List UInt8):Nat:=if r = [] then 0 else if decodeL r=(65533,1) then 0 else (decodeL r).2
def sigN (n b0 b1 b2 b3:Nat):Nat:=
 let lo:=if b0=224 then 160 else if b0=240 then 144 else 128
 let hi:=if b0=237 then 159 else if b0=244 then 143 else 191
 if b0<128 then 1
 else if 194<=b0/\b0<=223/\(1<n/\128<=b1/\b1<=191) then 2
 else if 224<=b0/\b0<=239/\(1<n/\lo<=b1/\b1<=hi)/\(2<n/\128<=b2/\b2<=191) then 3
 else if 240<=b0/\b0<=244/\(1<n/\lo<=b1/\b1<=hi)/\(2<n/\128<=b2/\b2<=191)/\(3<n/\128<=b3/\b3<=191) then 4
 else 0
set_option maxHeartbeats 2000000 in
theorem sigN_eq {n b0 b1 b2 b3:Nat} (h0:b0<256) (h1:b1<256) (h2:b2<256) (h3:b3<256):sigN n b0 b1 b2 b3=if decodeN n b0 b1 b2 b3=(65533,1) then 0 else (decodeN n b0 b1 b2 b3).2:=by
 have key:∀ (x:Nat×Nat) (v:Nat),v=(if x=(65533,1) then 0 else x.2)↔(x.1=65533/\x.2=1->v=0)/\(¬ (x.1=65533/\x.2=1)->v=x.2):=by
  intro x v
  obtain ⟨x1,x2⟩:=x
  simp only [Prod.mk.injEq]
  split
  ·rename_i h;exact ⟨fun e=>⟨fun _=>e,fun hn=>absurd h hn⟩,fun hh=>hh.1 h⟩
  ·rename_i h;exact ⟨fun e=>⟨fun hh=>absurd hh h,fun _=>e⟩,fun hh=>hh.2 h⟩
 rw [key]
 unfold sigN decodeN
 dsimp only
 by_cases c1:b0<128
 ·simp only [if_pos c1];exact ⟨fun h=>by omega,fun _=>trivial⟩
 simp only [if_neg c1]
 by_cases c2:b0 / 32=6
 ·rw [if_neg (show ¬ (224<=b0/\b0<=239/\_) from fun h=>by omega),if_neg (show ¬ (240<=b0/\b0<=244/\_) from fun h=>by omega)]
  rw [if_neg (show ¬ (b0 / 16=14/\_) from fun h=>by omega),if_neg (show ¬ (b0 / 8=30/\_) from fun h=>by omega)]
  repeat' split
  all_goals (dsimp only;omega)
 rw [if_neg (show ¬ (194<=b0/\b0<=223/\_) from fun h=>by omega),if_neg (show ¬ (b0 / 32=6/\_) from fun h=>by omega)]
 by_cases c3:b0 / 16=14
 ·rw [if_neg (show ¬ (240<=b0/\b0<=244/\_) from fun h=>by omega),if_neg (show ¬ (b0 / 8=30/\_) from fun h=>by omega)]
  rw [if_neg (show ¬ b0=240 by omega),if_neg (show ¬ b0=244 by omega)]
  repeat' split
  all_goals (dsimp only;omega)
 rw [if_neg (show ¬ (224<=b0/\b0<=239/\_) from fun h=>by omega),if_neg (show ¬ (b0 / 16=14/\_) from fun h=>by omega)]
 rw [if_neg (show ¬ b0=224 by omega),if_neg (show ¬ b0=237 by omega)]
 repeat' split
 all_goals (dsimp only;omega)
theorem sigL_N {r:List UInt8} (h:r ≠ []):sigL r=sigN r.length (r.getD 0 0).toNat (r.getD 1 0).toNat (r.getD 2 0).toNat (r.getD 3 0).toNat:=by
 unfold sigL
 rw [if_neg h,decodeL_N,sigN_eq (UInt8.toNat_lt _) (UInt8.toNat_lt _) (UInt8.toNat_lt _) (UInt8.toNat_lt _)]
theorem more_at (s:List UInt8) (p k lo hi:Nat) (hp:p+k<=9000000000000000000):Pure Tryz.prog 102 [.str s,.int .i64 ((p:Int)+k),.int .i64 lo,.int .i64 hi] (.bool (moreP s (p+k) lo hi)):=by
 have:=more_ok s (p+k) lo hi hp
 rw [Int.natCast_add] at this
 exact this
theorem more_iff (s:List UInt8) (p k lo hi:Nat) (hp:p<=s.length):moreP s (p+k) lo hi=true↔(k<(s.drop p).length/\lo<=((s.drop p).getD k 0).toNat/\((s.drop p).getD k 0).toNat<=hi):=by
 unfold moreP
 rw [decide_eq_true_eq,getD_dropU,List.length_drop]
 constructor
 ·rintro ⟨h1,h2,h3⟩;exact ⟨by omega,h2,h3⟩
 ·rintro ⟨h1,h2,h3⟩;exact ⟨by omega,h2,h3⟩
set_option maxHeartbeats 2000000 in
theorem rsign_ok (s:List UInt8) (p:Nat) (hp:p<=s.length) (hl:s.length<=4611686018427387904):Pure Tryz.prog 71 [.str s,.int .i64 p] (.int .i64 (sigL (s.drop p):Nat)):=by
 intro σ
 refine a71 (by simp) ?_
 by_cases hlt:p<s.length
 ·have hlt':¬ (s.length:Int)<=p:=by omega
  have hne:s.drop p ≠ []:=by
   intro e
   have:=congrArg List.length e
   rw [List.length_drop] at this
   simp at this
   omega
  have hx : s[p]? = some (s[p]'hlt) := List.getElem?_eq_getElem hlt
  obtain ⟨c, hc⟩ : ∃ c, s[p]'hlt = c := ⟨_, rfl⟩
  rw [hc] at hx
  have hb0:((s.drop p).getD 0 0).toNat=c.toNat:=by rw [getD_dropU,List.getD_eq_getElem?_getD,Nat.add_zero,hx];rfl
  rw [sigL_N hne,hb0]
  have hcb:=u8_lt c
  have m1:=more_iff s p 1 128 191 hp
  have m2:=more_iff s p 2 128 191 hp
  have m3:=more_iff s p 3 128 191 hp
  have q1:=more_at s p 1 128 191 (by omega)
  have q2:=more_at s p 2 128 191 (by omega)
  have q3:=more_at s p 3 128 191 (by omega)
  have mm:=fun lo hi=>more_iff s p 1 lo hi hp
  have qq:=fun lo hi=>more_at s p 1 lo hi (by omega)
  generalize ((s.drop p).getD 1 0).toNat=b1 at *
  generalize ((s.drop p).getD 2 0).toNat=b2 at *
  generalize ((s.drop p).getD 3 0).toNat=b3 at *
  generalize (s.drop p).length=n at *
  obtain ⟨C,hC⟩:∃ C,c.toNat=C:=⟨_,rfl⟩
  rw [hC] at hcb ⊢
  have e1:((1:Nat):Int)=1:=rfl
  have e2:((2:Nat):Int)=2:=rfl
  have e3:((3:Nat):Int)=3:=rfl
  have e128:((128:Nat):Int)=128:=rfl
  have e191:((191:Nat):Int)=191:=rfl
  rw [e1,e128,e191] at q1
  rw [e2,e128,e191] at q2
  rw [e3,e128,e191] at q3
  simp only [e1] at qq
  generalize hM1:moreP s (p+1) 128 191=M1 at *
  generalize moreP s (p+2) 128 191=M2 at *
  generalize moreP s (p+3) 128 191=M3 at *
  obtain ⟨F,hF⟩:∃ F,F=ACode.wp Tryz.prog c71_47:=⟨_,rfl⟩
  have tail:∀ (a1:AFr) (lo hi:Nat) (T:Nat),(a1 0 = .str s/\a1 1 = .int .i64 p/\a1 5 = .int .i64 C/\a1 6 = .int .i64 lo/\a1 7 = .int .i64 hi) →
    T=(if 224<=C/\C<=239/\moreP s (p+1) lo hi=true/\M2=true then 3 else if 240<=C/\C<=244/\moreP s (p+1) lo hi=true/\M2=true/\M3=true then 4 else 0)->F (RetQ [.t 4] fun v σ'=>v = .int .i64 T/\σ'=σ) a1 σ:=by
   intro a1 lo hi T hf hT
   rw [hF]
   have q:=qq lo hi
   generalize moreP s (p+1) lo hi=M at *
   by_cases g1:224<=C
   ·have g1':(224:Int)<=C:=by omega
    by_cases g2:C<=239
    ·have g2':(C:Int)<=239:=by omega
     have g3':¬ (240:Int)<=C:=by omega
     simp (disch:=first|assumption|omega|(simp only [List.length_append,List.length_cons,List.length_nil];omega)) only [go_sem,hf,g1',g2']
     refine q.use ?_
     cases M with
     | false=>
       rw [if_neg (by simp),if_neg (by simp)] at hT
       subst hT
       simp (disch:=first|assumption|omega|(simp only [List.length_append,List.length_cons,List.length_nil];omega)) only [go_sem,hf,g3']
       exact retC_by (by repeat' (first|exact Drop.refl _|with_reducible refine Drop.off ?_ (by assumption))) (.refl _) ⟨rfl,rfl⟩
     | true=>
       simp (disch:=first|assumption|omega|(simp only [List.length_append,List.length_cons,List.length_nil];omega)) only [go_sem,hf]
       refine q2.use ?_
       cases M2 with
       | false=>
         rw [if_neg (by simp),if_neg (by simp)] at hT
         subst hT
         simp (disch:=first|assumption|omega|(simp only [List.length_append,List.length_cons,List.length_nil];omega)) only [go_sem,hf,g3']
         exact retC_by (by repeat' (first|exact Drop.refl _|with_reducible refine Drop.off ?_ (by assumption))) (.refl _) ⟨rfl,rfl⟩
       | true=>
         rw [if_pos ⟨g1,g2,rfl,rfl⟩] at hT
         subst hT
         simp (disch:=first|assumption|omega|(simp only [List.length_append,List.length_cons,List.length_nil];omega)) only [go_sem,hf]
         exact retC_by (by repeat' (first|exact Drop.refl _|with_reducible refine Drop.off ?_ (by assumption))) (.refl _) ⟨rfl,rfl⟩
    ·have g2':¬ (C:Int)<=239:=by omega
     have g3':(240:Int)<=C:=by omega
     rw [if_neg (fun h=>g2 h.2.1)] at hT
     by_cases g4:C<=244
     ·have g4':(C:Int)<=244:=by omega
      simp (disch:=first|assumption|omega|(simp only [List.length_append,List.length_cons,List.length_nil];omega)) only [go_sem,hf,g1',g2',g3',g4']
      refine q.use ?_
      cases M with
      | false=>
        rw [if_neg (by simp)] at hT
        subst hT
        simp (disch:=first|assumption|omega|(simp only [List.length_append,List.length_cons,List.length_nil];omega)) only [go_sem,hf]
        exact retC_by (by repeat' (first|exact Drop.refl _|with_reducible refine Drop.off ?_ (by assumption))) (.refl _) ⟨rfl,rfl⟩
      | true=>
        simp (disch:=first|assumption|omega|(simp only [List.length_append,List.length_cons,List.length_nil];omega)) only [go_sem,hf]
        refine q2.use ?_
        cases M2 with
        | false=>
          rw [if_neg (by simp)] at hT
          subst hT
          simp (disch:=first|assumption|omega|(simp only [List.length_append,List.length_cons,List.length_nil];omega)) only [go_sem,hf]
          exact retC_by (by repeat' (first|exact Drop.refl _|with_reducible refine Drop.off ?_ (by assumption))) (.refl _) ⟨rfl,rfl⟩
        | true=>
          simp (disch:=first|assumption|omega|(simp only [List.length_append,List.length_cons,List.length_nil];omega)) only [go_sem,hf]
          refine q3.use ?_
          cases M3 with
          | false=>
            rw [if_neg (by simp)] at hT
            subst hT
            simp (disch:=first|assumption|omega|(simp only [List.length_append,List.length_cons,List.length_nil];omega)) only [go_sem,hf]
            exact retC_by (by repeat' (first|exact Drop.refl _|with_reducible refine Drop.off ?_ (by assumption))) (.refl _) ⟨rfl,rfl⟩
          | true=>
            rw [if_pos ⟨by omega,g4,rfl,rfl,rfl⟩] at hT
            subst hT
            simp (disch:=first|assumption|omega|(simp only [List.length_append,List.length_cons,List.length_nil];omega)) only [go_sem,hf]
            exact retC_by (by repeat' (first|exact Drop.refl _|with_reducible refine Drop.off ?_ (by assumption))) (.refl _) ⟨rfl,rfl⟩
     ·have g4':¬ (C:Int)<=244:=by omega
      rw [if_neg (fun h=>g4 h.2.1)] at hT
      subst hT
      simp (disch:=first|assumption|omega|(simp only [List.length_append,List.length_cons,List.length_nil];omega)) only [go_sem,hf,g1',g2',g3',g4']
      exact retC_by (by repeat' (first|exact Drop.refl _|with_reducible refine Drop.off ?_ (by assumption))) (.refl _) ⟨rfl,rfl⟩
   ·have g1':¬ (224:Int)<=C:=by omega
    have g3':¬ (240:Int)<=C:=by omega
    rw [if_neg (fun h=>g1 h.1),if_neg (fun h=>by omega)] at hT
    subst hT
    simp (disch:=first|assumption|omega|(simp only [List.length_append,List.length_cons,List.length_nil];omega)) only [go_sem,hf,g1',g3']
    exact retC_by (by repeat' (first|exact Drop.refl _|with_reducible refine Drop.off ?_ (by assumption))) (.refl _) ⟨rfl,rfl⟩
  have hCw:IntKind.i64.wrap (C:Int)=C:=by rw [IntKind.wrap_i64];omega
  by_cases c1:C<128
  ·have c1':(C:Int)<128:=by omega
   unfold sigN
   rw [if_pos c1]
   simp (disch:=first|assumption|omega|(simp only [List.length_append,List.length_cons,List.length_nil];omega)) only [go_sem,hlt',hx,hC,hCw,c1',←hF]
   exact retC_by (by repeat' (first|exact Drop.refl _|with_reducible refine Drop.off ?_ (by assumption))) (.refl _) ⟨rfl,rfl⟩
  have c1':¬ (C:Int)<128:=by omega
  have step2:∀ (a1:AFr),¬ (194<=C/\C<=223/\M1=true)->(a1 0 = .str s/\a1 1 = .int .i64 p/\a1 5 = .int .i64 C)->ACode.wp Tryz.prog c71_52 (RetQ [.t 4] fun v σ'=>v = .int .i64 (sigN n C b1 b2 b3:Nat)/\σ'=σ) a1 σ:=by
   intro a1 hno hf
   have fold:∀ lo hi:Nat,lo=(if C=224 then 160 else if C=240 then 144 else 128)->hi=(if C=237 then 159 else if C=244 then 143 else 191)->sigN n C b1 b2 b3=(if 224<=C/\C<=239/\moreP s (p+1) lo hi=true/\M2=true then 3 else if 240<=C/\C<=244/\moreP s (p+1) lo hi=true/\M2=true/\M3=true then 4 else 0):=by
    intro lo hi hlo hhi
    unfold sigN
    dsimp only
    rw [<-hlo,← hhi,if_neg c1,if_neg (fun h=>hno ⟨h.1,h.2.1,m1.2 h.2.2⟩)]
    simp only [mm lo hi,m2,m3]
   by_cases k1:C=224
   ·have k1':(C:Int)=224:=by omega
    simp (disch:=first|assumption|omega|(simp only [List.length_append,List.length_cons,List.length_nil];omega)) only [go_sem,hf,k1',←hF]
    subst k1
    refine tail _ 160 191 _ ?_ (fold 160 191 (by simp) (by simp))
    simp (disch:=first|assumption|omega|(simp only [List.length_append,List.length_cons,List.length_nil];omega)) only [go_sem,hf]
   have k1':¬ (C:Int)=224:=by omega
   by_cases k2:C=240
   ·have k2':(C:Int)=240:=by omega
    simp (disch:=first|assumption|omega|(simp only [List.length_append,List.length_cons,List.length_nil];omega)) only [go_sem,hf,k1',k2',←hF]
    subst k2
    refine tail _ 144 191 _ ?_ (fold 144 191 (by simp) (by simp))
    simp (disch:=first|assumption|omega|(simp only [List.length_append,List.length_cons,List.length_nil];omega)) only [go_sem,hf]
   have k2':¬ (C:Int)=240:=by omega
   by_cases k3:C=237
   ·have k3':(C:Int)=237:=by omega
    simp (disch:=first|assumption|omega|(simp only [List.length_append,List.length_cons,List.length_nil];omega)) only [go_sem,hf,k1',k2',k3',←hF]
    subst k3
    refine tail _ 128 159 _ ?_ (fold 128 159 (by simp) (by simp))
    simp (disch:=first|assumption|omega|(simp only [List.length_append,List.length_cons,List.length_nil];omega)) only [go_sem,hf]
   have k3':¬ (C:Int)=237:=by omega
   by_cases k4:C=244
   ·have k4':(C:Int)=244:=by omega
    simp (disch:=first|assumption|omega|(simp only [List.length_append,List.length_cons,List.length_nil];omega)) only [go_sem,hf,k1',k2',k3',k4',←hF]
    subst k4
    refine tail _ 128 143 _ ?_ (fold 128 143 (by simp) (by simp))
    simp (disch:=first|assumption|omega|(simp only [List.length_append,List.length_cons,List.length_nil];omega)) only [go_sem,hf]
   have k4':¬ (C:Int)=244:=by omega
   simp (disch:=first|assumption|omega|(simp only [List.length_append,List.length_cons,List.length_nil];omega)) only [go_sem,hf,k1',k2',k3',k4',←hF]
   refine tail _ 128 191 _ ?_ (fold 128 191 (by rw [if_neg k1,if_neg k2]) (by rw [if_neg k3,if_neg k4]))
   simp (disch:=first|assumption|omega|(simp only [List.length_append,List.length_cons,List.length_nil];omega)) only [go_sem,hf]
  obtain ⟨G,hG⟩:∃ G,G=ACode.wp Tryz.prog c71_52:=⟨_,rfl⟩
  rw [<-hG] at step2
  by_cases c2:194<=C
  ·have c2':(194:Int)<=C:=by omega
   by_cases c3:C<=223
   ·have c3':(C:Int)<=223:=by omega
    simp (disch:=first|assumption|omega|(simp only [List.length_append,List.length_cons,List.length_nil];omega)) only [go_sem,hlt',hx,hC,hCw,c1',c2',c3',←hG]
    refine q1.use ?_
    cases M1 with
    | true=>
      unfold sigN
      dsimp only
      rw [if_neg c1,if_pos ⟨c2,c3,m1.1 rfl⟩]
      simp (disch:=first|assumption|omega|(simp only [List.length_append,List.length_cons,List.length_nil];omega)) only [go_sem]
      exact retC_by (by repeat' (first|exact Drop.refl _|with_reducible refine Drop.off ?_ (by assumption))) (.refl _) ⟨rfl,rfl⟩
    | false=>
      simp (disch:=first|assumption|omega|(simp only [List.length_append,List.length_cons,List.length_nil];omega)) only [go_sem,←hG]
      refine step2 _ (fun h=>by cases h.2.2) ?_
      simp (disch:=first|assumption|omega|(simp only [List.length_append,List.length_cons,List.length_nil];omega)) only [go_sem]
   ·have c3':¬ (C:Int)<=223:=by omega
    simp (disch:=first|assumption|omega|(simp only [List.length_append,List.length_cons,List.length_nil];omega)) only [go_sem,hlt',hx,hC,hCw,c1',c2',c3',←hG]
    refine step2 _ (fun h=>c3 h.2.1) ?_
    simp (disch:=first|assumption|omega|(simp only [List.length_append,List.length_cons,List.length_nil];omega)) only [go_sem]
  ·have c2':¬ (194:Int)<=C:=by omega
   simp (disch:=first|assumption|omega|(simp only [List.length_append,List.length_cons,List.length_nil];omega)) only [go_sem,hlt',hx,hC,hCw,c1',c2',←hG]
   refine step2 _ (fun h=>c2 h.1) ?_
   simp (disch:=first|assumption|omega|(simp only [List.length_append,List.length_cons,List.length_nil];omega)) only [go_sem]
 ·have hlt':(s.length:Int)<=p:=by omega
  rw [List.drop_eq_nil_of_le (by omega)]
  simp (disch:=first|assumption|omega|(simp only [List.length_append,List.length_cons,List.length_nil];omega)) only [go_sem,hlt']
  exact retC_by (by repeat' (first|exact Drop.refl _|with_reducible refine Drop.off ?_ (by assumption))) (.refl _) ⟨rfl,rfl⟩
end Go.A
namespace Go.A
open Go.Proofs
/-! 63: tabular/deci.Good -/
def c63_3:ACode := .seq (.ops [ oq 2 (.mv (.v (.bool false)))]) (.seq (.ops [ oq 3 (.mv (.t 0)),oq 4 (.bin .geq (.t 3) (.v (.int .i64 (-999999999999999999)))),oq 5 (.mv (.t 4)),⟨some 6,some (5,true),.q (.mv (.t 0)),[]⟩,⟨some 7,some (5,true),.q (.bin .leq (.t 6) (.v (.int .i64 999999999999999999))),[]⟩,oq 8 (.pick (.t 5) (.t 7) (.v (.bool false))),oq 2 (.mv (.t 8))]) .ret)
@[go_sem] def c63_3_wp:=wp_of c63_3.eq_1
def c63:AFn:=⟨9,[.t 2],c63_3⟩
theorem c63_ok:compF Tryz.prog Tryz.f63=some c63:=by kernel_rfl
theorem a63 {args:List AV} {σ:ASt} {R:AV->ASt->Prop} (hl:args.length<=9) (h:c63_3.wp Tryz.prog (RetQ [.t 2] R) (init args) σ):ACalls Tryz.prog 63 args σ R:=acalls_of Tryz.func63 c63_ok hl h
/-! 74: (tabular/deci.Dec).Text -/
def c74_20:ACode := .seq (.ops [ oq 2 (.mv (.v (.str [])))]) (.seq (.ops [ oq 6 (.mv (.t 0)),oe 7 (.call 103 [(.t 6)]),oq 3 (.mv (.t 7))]) (.seq (.ops [ oq 8 (.mv (.t 3)),oq 9 (.bin .quo (.t 8) (.v (.int .u64 10000))),oe 10 (.call 104 [(.t 9),(.v (.int .i64 10))]),oq 4 (.mv (.t 10))]) (.seq (.seq (.ops [ oq 11 (.mv (.t 3)),oq 12 (.bin .rem (.t 11) (.v (.int .u64 10000))),oq 5 (.mv (.t 12))]) (.seq (.ops [ oq 13 (.mv (.t 5)),oq 14 (.bin .gtr (.t 13) (.v (.int .u64 0)))]) (.cond (.t 14) (.ops [ oq 15 (.mv (.t 4)),oq 16 (.mv (.t 5)),oq 17 (.bin .add (.v (.int .u64 10000)) (.t 16)),oe 18 (.call 104 [(.t 17),(.v (.int .i64 10))]),oq 19 (.slfrom (true,0) (.t 18) (.v (.int .i64 1))),oe 20 (.call 105 [(.t 19),(.v (.str [48]))]),oq 21 (.bin .add (.v (.str [46])) (.t 20)),oq 22 (.bin .add (.t 15) (.t 21)),oq 4 (.mv (.t 22))]) .skip))) (.seq (.seq (.ops [ oq 23 (.mv (.t 0)),oq 24 (.bin .lss (.t 23) (.v (.int .i64 0)))]) (.cond (.t 24) (.seq (.ops [ oq 25 (.mv (.t 4)),oq 26 (.bin .add (.v (.str [45])) (.t 25)),oq 2 (.mv (.t 26))]) .ret) .skip)) (.seq (.ops [ oq 27 (.mv (.t 4)),oq 2 (.mv (.t 27))]) .ret)))))
@[go_sem] def c74_20_wp:=wp_of c74_20.eq_1
def c74:AFn:=⟨28,[.t 2],c74_20⟩
theorem c74_ok:compF Tryz.prog Tryz.f74=some c74:=by kernel_rfl
theorem a74 {args:List AV} {σ:ASt} {R:AV->ASt->Prop} (hl:args.length<=28) (h:c74_20.wp Tryz.prog (RetQ [.t 2] R) (init args) σ):ACalls Tryz.prog 74 args σ R:=acalls_of Tryz.func74 c74_ok hl h
/-! 79: tabular/deci.Parse -/
def c79_25:ACode := .seq (.ops [ oq 47 (.bin .lss (.t 46) (.t 45))]) (.seq (.cond (.t 47) .skip (.exit 0)) (.seq (.block 1 (.seq (.ops [ oq 48 (.ia 1 (.t 44) (.t 46)),oq 49 (.ld none (.t 48)),oq 11 (.mv (.t 49))]) (.seq (.seq (.ops [ oq 50 (.mv (.t 11)),oq 51 (.bin .lss (.t 50) (.v (.int .u8 48))),oq 52 (.mv (.t 51)),⟨some 53,some (52,false),.q (.mv (.t 11)),[]⟩,⟨some 54,some (52,false),.q (.bin .gtr (.t 53) (.v (.int .u8 57))),[]⟩,oq 55 (.pick (.t 52) (.v (.bool true)) (.t 54)),oq 56 (.mv (.t 55)),⟨some 57,some (56,false),.q (.mv (.t 9)),[]⟩,⟨some 58,some (56,false),.q (.bin .gtr (.t 57) (.v (.int .u64 99999999999999999))),[]⟩,oq 59 (.pick (.t 56) (.v (.bool true)) (.t 58))]) (.cond (.t 59) (.seq (.ops [ oq 2 (.mv (.v (.int .i64 0))),oq 3 (.mv (.v (.bool false)))]) .ret) .skip)) (.ops [ oq 60 (.mv (.t 9)),oq 61 (.bin .mul (.v (.int .u64 10)) (.t 60)),oq 62 (.mv (.t 11)),oq 63 (.bin .sub (.t 62) (.v (.int .u8 48))),oq 64 (.conv .u64 (.t 63)),oq 65 (.bin .add (.t 61) (.t 64)),oq 9 (.mv (.t 65))])))) (.ops [ oq 66 (.bin .add (.t 46) (.v (.int .i64 1))),oq 46 (.mv (.t 66))])))
def c79_32:ACode := .seq (.ops [ oq 9 (.mv (.v (.int .u64 0)))]) (.seq (.seq (.ops [ oq 37 (.mv (.t 6)),oq 38 (.mv (.t 7)),oq 39 (.bin .add (.t 37) (.t 38)),oq 40 (.mv (.t 7)),oq 41 (.lenS (.t 40)),oq 42 (.slfrom (true,0) (.v (.str [48,48,48,48])) (.t 41)),oq 43 (.bin .add (.t 39) (.t 42)),oe 44 (.s2b (.t 43)),oq 45 (.len (.t 44)),oq 46 (.mv (.v (.int .i64 0)))]) (.block 0 (.loop c79_25))) (.seq (.ops [ oq 67 (.mv (.t 5)),oq 68 (.mv (.t 9)),oe 69 (.call 108 [(.t 67),(.v (.int .u64 0)),(.t 68)]),oq 70 (.ext 0 (.t 69)),oq 71 (.ext 1 (.t 69)),oq 2 (.mv (.t 70)),oq 3 (.mv (.t 71))]) .ret))
def c79_36:ACode := .seq (.ops [ oq 2 (.mv (.v (.int .i64 0))),oq 3 (.mv (.v (.bool false)))]) (.seq (.ops [ oq 13 (.mv (.t 0)),oe 14 (.call 107 [(.t 13),(.v (.str [45]))]),oq 12 (.mv (.t 14)),oq 15 (.ext 0 (.t 12)),oq 16 (.ext 1 (.t 12)),oq 4 (.mv (.t 15)),oq 5 (.mv (.t 16))]) (.seq (.ops [ oq 18 (.mv (.t 4)),oe 19 (.call 88 [(.t 18),(.v (.str [46]))]),oq 17 (.mv (.t 19)),oq 20 (.ext 0 (.t 17)),oq 21 (.ext 1 (.t 17)),oq 22 (.ext 2 (.t 17)),oq 6 (.mv (.t 20)),oq 7 (.mv (.t 21)),oq 8 (.mv (.t 22))]) (.seq (.seq (.ops [ oq 23 (.mv (.t 6)),oq 24 (.bin .eql (.t 23) (.v (.str []))),oq 25 (.mv (.t 24)),⟨some 26,some (25,false),.q (.mv (.t 8)),[]⟩,⟨some 27,some (25,false),.q (.mv (.t 26)),[]⟩,⟨some 28,some (27,true),.q (.mv (.t 7)),[]⟩,⟨some 29,some (27,true),.q (.bin .eql (.t 28) (.v (.str []))),[]⟩,⟨some 30,some (27,true),.q (.mv (.t 29)),[]⟩,⟨some 31,some (30,false),.q (.mv (.t 7)),[]⟩,⟨some 32,some (30,false),.q (.lenS (.t 31)),[]⟩,⟨some 33,some (30,false),.q (.bin .gtr (.t 32) (.v (.int .i64 4))),[]⟩,⟨some 34,some (27,true),.q (.pick (.t 30) (.v (.bool true)) (.t 33)),[]⟩,⟨some 35,some (25,false),.q (.pick (.t 27) (.t 34) (.v (.bool false))),[]⟩,oq 36 (.pick (.t 25) (.v (.bool true)) (.t 35))]) (.cond (.t 36) (.seq (.ops [ oq 2 (.mv (.v (.int .i64 0))),oq 3 (.mv (.v (.bool false)))]) .ret) .skip)) c79_32)))
@[go_sem] def c79_25_wp:=wp_of c79_25.eq_1
@[go_sem] def c79_32_wp:=wp_of c79_32.eq_1
@[go_sem] def c79_36_wp:=wp_of c79_36.eq_1
def c79:AFn:=⟨72,[.t 2,.t 3],c79_36⟩
theorem c79_ok:compF Tryz.prog Tryz.f79=some c79:=by kernel_rfl
theorem a79 {args:List AV} {σ:ASt} {R:AV->ASt->Prop} (hl:args.length<=72) (h:c79_36.wp Tryz.prog (RetQ [.t 2,.t 3] R) (init args) σ):ACalls Tryz.prog 79 args σ R:=acalls_of Tryz.func79 c79_ok hl h
/-! 88: strings.Cut -/
def c88_3:ACode := .seq (.ops [ oq 4 (.mv (.v (.str []))),oq 5 (.mv (.v (.str []))),oq 6 (.mv (.v (.bool false)))]) (.seq (.ops [ oq 7 (.mv (.t 0)),oq 8 (.mv (.t 1)),oe 9 (.call 117 [(.t 7),(.t 8)]),oq 10 (.ext 0 (.t 9)),oq 11 (.ext 1 (.t 9)),oq 12 (.ext 2 (.t 9)),oq 4 (.mv (.t 10)),oq 5 (.mv (.t 11)),oq 6 (.mv (.t 12))]) .ret)
@[go_sem] def c88_3_wp:=wp_of c88_3.eq_1
def c88:AFn:=⟨13,[.t 4,.t 5,.t 6],c88_3⟩
theorem c88_ok:compF Tryz.prog Tryz.f88=some c88:=by kernel_rfl
theorem a88 {args:List AV} {σ:ASt} {R:AV->ASt->Prop} (hl:args.length<=13) (h:c88_3.wp Tryz.prog (RetQ [.t 4,.t 5,.t 6] R) (init args) σ):ACalls Tryz.prog 88 args σ R:=acalls_of Tryz.func88 c88_ok hl h
/-! 103: tabular/deci.size -/
def c103_9:ACode := .seq (.ops [ oq 2 (.mv (.v (.int .u64 0)))]) (.seq (.seq (.ops [ oq 3 (.mv (.t 0)),oq 4 (.bin .lss (.t 3) (.v (.int .i64 0)))]) (.cond (.t 4) (.seq (.ops [ oq 5 (.mv (.t 0)),oq 6 (.un .neg (.t 5)),oq 7 (.conv .u64 (.t 6)),oq 2 (.mv (.t 7))]) .ret) .skip)) (.seq (.ops [ oq 8 (.mv (.t 0)),oq 9 (.conv .u64 (.t 8)),oq 2 (.mv (.t 9))]) .ret))
@[go_sem] def c103_9_wp:=wp_of c103_9.eq_1
def c103:AFn:=⟨10,[.t 2],c103_9⟩
theorem c103_ok:compF Tryz.prog Tryz.f103=some c103:=by kernel_rfl
theorem a103 {args:List AV} {σ:ASt} {R:AV->ASt->Prop} (hl:args.length<=10) (h:c103_9.wp Tryz.prog (RetQ [.t 2] R) (init args) σ):ACalls Tryz.prog 103 args σ R:=acalls_of Tryz.func103 c103_ok hl h
/-! 104: strconv.FormatUint -/
def c104_3:ACode := .seq (.ops [ oq 4 (.mv (.v (.str [])))]) (.seq (.ops [ oq 5 (.mv (.t 0)),oq 6 (.mv (.t 1)),oe 7 (.call 124 [(.t 5),(.t 6)]),oq 4 (.mv (.t 7))]) .ret)
@[go_sem] def c104_3_wp:=wp_of c104_3.eq_1
def c104:AFn:=⟨8,[.t 4],c104_3⟩
theorem c104_ok:compF Tryz.prog Tryz.f104=some c104:=by kernel_rfl
theorem a104 {args:List AV} {σ:ASt} {R:AV->ASt->Prop} (hl:args.length<=8) (h:c104_3.wp Tryz.prog (RetQ [.t 4] R) (init args) σ):ACalls Tryz.prog 104 args σ R:=acalls_of Tryz.func104 c104_ok hl h
/-! 106: (tabular/deci.Dec).Whole -/
def c106_3:ACode := .seq (.ops [ oq 2 (.mv (.v (.int .i64 0)))]) (.seq (.ops [ oq 3 (.mv (.t 0)),oq 4 (.bin .quo (.t 3) (.v (.int .i64 10000))),oq 2 (.mv (.t 4))]) .ret)
@[go_sem] def c106_3_wp:=wp_of c106_3.eq_1
def c106:AFn:=⟨5,[.t 2],c106_3⟩
theorem c106_ok:compF Tryz.prog Tryz.f106=some c106:=by kernel_rfl
theorem a106 {args:List AV} {σ:ASt} {R:AV->ASt->Prop} (hl:args.length<=5) (h:c106_3.wp Tryz.prog (RetQ [.t 2] R) (init args) σ):ACalls Tryz.prog 106 args σ R:=acalls_of Tryz.func106 c106_ok hl h
/-! 108: tabular/deci.made -/
def c108_15:ACode := .seq (.ops [ oq 6 (.mv (.v (.int .i64 0))),oq 7 (.mv (.v (.bool false)))]) (.seq (.seq (.ops [ oq 8 (.mv (.t 1)),oq 9 (.bin .gtr (.t 8) (.v (.int .u64 0))),oq 10 (.mv (.t 9)),⟨some 11,some (10,false),.q (.mv (.t 2)),[]⟩,⟨some 12,some (10,false),.q (.bin .gtr (.t 11) (.v (.int .u64 999999999999999999))),[]⟩,oq 13 (.pick (.t 10) (.v (.bool true)) (.t 12))]) (.cond (.t 13) (.seq (.ops [ oq 6 (.mv (.v (.int .i64 0))),oq 7 (.mv (.v (.bool false)))]) .ret) .skip)) (.seq (.seq (.ops [ oq 14 (.mv (.t 0))]) (.cond (.t 14) (.seq (.ops [ oq 15 (.mv (.t 2)),oq 16 (.conv .i64 (.t 15)),oq 17 (.un .neg (.t 16)),oq 6 (.mv (.t 17)),oq 7 (.mv (.v (.bool true)))]) .ret) .skip)) (.seq (.ops [ oq 18 (.mv (.t 2)),oq 19 (.conv .i64 (.t 18)),oq 6 (.mv (.t 19)),oq 7 (.mv (.v (.bool true)))]) .ret)))
@[go_sem] def c108_15_wp:=wp_of c108_15.eq_1
def c108:AFn:=⟨20,[.t 6,.t 7],c108_15⟩
theorem c108_ok:compF Tryz.prog Tryz.f108=some c108:=by kernel_rfl
theorem a108 {args:List AV} {σ:ASt} {R:AV->ASt->Prop} (hl:args.length<=20) (h:c108_15.wp Tryz.prog (RetQ [.t 6,.t 7] R) (init args) σ):ACalls Tryz.prog 108 args σ R:=acalls_of Tryz.func108 c108_ok hl h
/-! 110: tabular/deci.Round -/
def c110_28:ACode := .seq (.ops [ oq 4 (.mv (.v (.int .i64 0))),oq 5 (.mv (.v (.bool false)))]) (.seq (.seq (.ops [ oq 10 (.mv (.t 1)),oq 11 (.bin .lss (.t 10) (.v (.int .i64 (-14))))]) (.cond (.t 11) (.seq (.ops [ oq 4 (.mv (.v (.int .i64 0))),oq 5 (.mv (.v (.bool true)))]) .ret) .skip)) (.seq (.ops [ oq 13 (.mv (.t 1)),oe 14 (.call 133 [(.t 13)]),oq 12 (.mv (.t 14)),oq 15 (.ext 0 (.t 12)),oq 16 (.ext 1 (.t 12)),oq 6 (.mv (.t 15)),oq 7 (.mv (.t 16))]) (.seq (.seq (.ops [ oq 17 (.mv (.t 7)),oq 18 (.un .not (.t 17))]) (.cond (.t 18) (.seq (.ops [ oq 19 (.mv (.t 0)),oq 4 (.mv (.t 19)),oq 5 (.mv (.v (.bool true)))]) .ret) .skip)) (.seq (.ops [ oq 20 (.mv (.t 0)),oe 21 (.call 103 [(.t 20)]),oq 8 (.mv (.t 21))]) (.seq (.ops [ oq 22 (.mv (.t 8)),oq 23 (.mv (.t 6)),oq 24 (.bin .rem (.t 22) (.t 23)),oq 9 (.mv (.t 24))]) (.seq (.ops [ oq 25 (.mv (.t 8)),oq 26 (.mv (.t 9)),oq 27 (.bin .sub (.t 25) (.t 26)),oq 8 (.mv (.t 27))]) (.seq (.seq (.ops [ oq 28 (.mv (.t 9)),oq 29 (.mv (.t 6)),oq 30 (.mv (.t 9)),oq 31 (.bin .sub (.t 29) (.t 30)),oq 32 (.bin .geq (.t 28) (.t 31))]) (.cond (.t 32) (.ops [ oq 33 (.mv (.t 8)),oq 34 (.mv (.t 6)),oq 35 (.bin .add (.t 33) (.t 34)),oq 8 (.mv (.t 35))]) .skip)) (.seq (.ops [ oq 36 (.mv (.t 0)),oq 37 (.bin .lss (.t 36) (.v (.int .i64 0))),oq 38 (.mv (.t 8)),oe 39 (.call 108 [(.t 37),(.v (.int .u64 0)),(.t 38)]),oq 40 (.ext 0 (.t 39)),oq 41 (.ext 1 (.t 39)),oq 4 (.mv (.t 40)),oq 5 (.mv (.t 41))]) .ret))))))))
@[go_sem] def c110_28_wp:=wp_of c110_28.eq_1
def c110:AFn:=⟨42,[.t 4,.t 5],c110_28⟩
theorem c110_ok:compF Tryz.prog Tryz.f110=some c110:=by kernel_rfl
theorem a110 {args:List AV} {σ:ASt} {R:AV->ASt->Prop} (hl:args.length<=42) (h:c110_28.wp Tryz.prog (RetQ [.t 4,.t 5] R) (init args) σ):ACalls Tryz.prog 110 args σ R:=acalls_of Tryz.func110 c110_ok hl h
/-! 117: internal/stringslite.Cut -/
def c117_11:ACode := .seq (.ops [ oq 4 (.mv (.v (.str []))),oq 5 (.mv (.v (.str []))),oq 6 (.mv (.v (.bool false)))]) (.seq (.seq (.ops [ oq 8 (.mv (.t 0)),oq 9 (.mv (.t 1)),oe 10 (.call 115 [(.t 8),(.t 9)]),oq 7 (.mv (.t 10))]) (.seq (.ops [ oq 11 (.mv (.t 7)),oq 12 (.bin .geq (.t 11) (.v (.int .i64 0)))]) (.cond (.t 12) (.seq (.ops [ oq 13 (.mv (.t 0)),oq 14 (.mv (.t 7)),oq 15 (.slto (true,0) (.t 13) (.t 14)),oq 16 (.mv (.t 0)),oq 17 (.mv (.t 7)),oq 18 (.mv (.t 1)),oq 19 (.lenS (.t 18)),oq 20 (.bin .add (.t 17) (.t 19)),oq 21 (.slfrom (true,0) (.t 16) (.t 20)),oq 4 (.mv (.t 15)),oq 5 (.mv (.t 21)),oq 6 (.mv (.v (.bool true)))]) .ret) .skip))) (.seq (.ops [ oq 22 (.mv (.t 0)),oq 4 (.mv (.t 22)),oq 5 (.mv (.v (.str []))),oq 6 (.mv (.v (.bool false)))]) .ret))
@[go_sem] def c117_11_wp:=wp_of c117_11.eq_1
def c117:AFn:=⟨23,[.t 4,.t 5,.t 6],c117_11⟩
theorem c117_ok:compF Tryz.prog Tryz.f117=some c117:=by kernel_rfl
theorem a117 {args:List AV} {σ:ASt} {R:AV->ASt->Prop} (hl:args.length<=23) (h:c117_11.wp Tryz.prog (RetQ [.t 4,.t 5,.t 6] R) (init args) σ):ACalls Tryz.prog 117 args σ R:=acalls_of Tryz.func117 c117_ok hl h
/-! 133: tabular/deci.unit -/
def c133_9:ACode := .seq (.ops [ oq 2 (.mv (.v (.int .u64 0))),oq 3 (.mv (.v (.bool false)))]) (.seq (.seq (.ops [ oq 4 (.mv (.t 0)),oq 5 (.bin .geq (.t 4) (.v (.int .i64 4))),oq 6 (.mv (.t 5)),⟨some 7,some (6,false),.q (.mv (.t 0)),[]⟩,⟨some 8,some (6,false),.q (.bin .lss (.t 7) (.v (.int .i64 (-14)))),[]⟩,oq 9 (.pick (.t 6) (.v (.bool true)) (.t 8))]) (.cond (.t 9) (.seq (.ops [ oq 2 (.mv (.v (.int .u64 0))),oq 3 (.mv (.v (.bool false)))]) .ret) .skip)) (.seq (.ops [ oq 10 (.ld none (.v (.ptr 3 0))),oq 11 (.mv (.t 0)),oq 12 (.bin .sub (.v (.int .i64 4)) (.t 11)),oq 13 (.ia 1 (.t 10) (.t 12)),oq 14 (.ld none (.t 13)),oq 2 (.mv (.t 14)),oq 3 (.mv (.v (.bool true)))]) .ret))
@[go_sem] def c133_9_wp:=wp_of c133_9.eq_1
def c133:AFn:=⟨15,[.t 2,.t 3],c133_9⟩
theorem c133_ok:compF Tryz.prog Tryz.f133=some c133:=by kernel_rfl
theorem a133 {args:List AV} {σ:ASt} {R:AV->ASt->Prop} (hl:args.length<=15) (h:c133_9.wp Tryz.prog (RetQ [.t 2,.t 3] R) (init args) σ):ACalls Tryz.prog 133 args σ R:=acalls_of Tryz.func133 c133_ok hl h
end Go.A
end
namespace Go.A
open Go.Proofs Go.Shelf Go.RowKit Go.Sort
set_option maxHeartbeats 4000000 in
theorem fmtU_small (u:Nat) (hu:u<100) (w:World):Calls Tryz.prog 124 #[.int .u64 u,.int .i64 10] w fun e w'=>e = .returned (.string ⟨(Lib.decDigits u).toArray⟩)/\Ext w w':=by
 have iu:(u:Int)<100:=by omega
 go_enter Tryz.func124,Tryz.ntmps124
 go_wp2_with (go_at_call 143;refine (Tryz.internal_strconv_small u hu _).mono ?_;rintro e w' ⟨rfl,rfl⟩)
 go_ret
 exact ⟨rfl,Ext.refl _⟩
set_option maxHeartbeats 12800000 in
theorem fmtU_big (u : Nat) (hu : 100 ≤ u) (hu64 : u < 18446744073709551616) (w : World) (htab : Lib.TabIs Tryz.prog w "internal/strconv.uint64pow10" .u64 Lib.pow10Tab) :
  Calls Tryz.prog 124 #[.int .u64 u,.int .i64 10] w fun e w'=>e = .returned (.string ⟨(Lib.decDigits u).toArray⟩)/\Ext w w':=by
 have hu1:1<=u:=by omega
 have hnd20:Lib.nDigits u<=20:=by have:=Lib.numDigits_eq u hu1 hu64;split at this<;>omega
 have hal:Tryz.prog.arrayLen 187=24:=by kernel_rfl
 have hsl:∀ W,(Instr.sliceAt 187 (.pointer (some ⟨w.heap.size,0,none⟩)) none (some (.int .i64 (Lib.nDigits u:Int))) none).run Tryz.prog W = .ok (.slice (some ⟨w.heap.size,0,none⟩) (Lib.nDigits u) 24) W:=fun W=>by
  rw [run_sliceAt_array_h W 187 ⟨w.heap.size,0,none⟩ (by kernel_rfl) .i64 (Lib.nDigits u:Int) (by omega) (by rw [hal];omega)]
  rw [hal]
  rfl
 have hH0:=Lib.holds_zero0 w 187 (Lib.nDigits u) (by omega)
 have hfmt:=Tryz.internal_strconv_formatBase10 w.heap.size 0 24 u (Array.replicate (Lib.nDigits u) 0) (w.alloc (.cells Lib.zeros24 187)) hH0 (by rw [Array.size_replicate];exact Lib.lt_pow_nDigits u) hu64 (by rw [Array.size_replicate];omega)
 rw [Array.size_replicate] at hfmt
 have HH0:=Lib.hid hH0
 have iu:(100:Int)<=(u:Int):=by omega
 clear hH0 hal
 go_enter Tryz.func124,Tryz.ntmps124
 go_wp2_with (first
  | (go_at_call 144;refine (Tryz.internal_strconv_numDigits u hu1 hu64 _ (Lib.tabIs_alloc htab _)).mono ?_;rintro e w' ⟨rfl,rfl⟩))
 go_at_call 145
 refine hfmt.mono ?_
 rintro e w' ⟨rfl,k,v',dk,rfl,hF⟩
 have hcv:(convert 109 9 (.slice (some ⟨w.heap.size,0,none⟩) (Lib.nDigits u) 24)).run Tryz.prog ((putRow (fun (b:UInt8)=>Value.int .u8 (b.toNat:Int)) (w.alloc (.cells Lib.zeros24 187)) w.heap.size 0 dk).drewN k) = .ok (.string ⟨(Lib.decDigits u).toArray⟩) ((putRow (fun (b:UInt8)=>Value.int .u8 (b.toNat:Int)) (w.alloc (.cells Lib.zeros24 187)) w.heap.size 0 dk).drewN k):=by
  have h:=run_convert_bytes_back (P:=Tryz.prog) ((putRow (fun (b:UInt8)=>Value.int .u8 (b.toNat:Int)) (w.alloc (.cells Lib.zeros24 187)) w.heap.size 0 dk).drewN k) 109 9 5 ⟨w.heap.size,0,none⟩ 24 (Lib.decDigits u) Tryz.underlying109 Tryz.underlying5 Tryz.underlying9 (fun j hj=>by
   rw [Lib.row_is_numeral hF j hj,Lib.add_plain,World.cell?_drewN]
   exact cell?_putRow (fun (b:UInt8)=>Value.int .u8 (b.toNat:Int)) _ w.heap.size 0 _ dk HH0.out (by rw [hF.size,Array.size_replicate]) j (by rw [hF.size];rw [Lib.decDigits_length] at hj;exact hj))
  rw [Lib.decDigits_length] at h
  exact h
 go_wp2
 go_ret
 obtain ⟨os,eo⟩:=Lib.fin_at w (.cells Lib.zeros24 187) dk k 0
 refine ⟨rfl,?_⟩
 rw [eo]
 exact ext_grow w k os
theorem ifmt_ok {σ:ASt} (h:Tab σ) {u:Nat} (hu:u<18446744073709551616):ACalls Tryz.prog 124 [.int .u64 u,.int .i64 10] σ fun v σ'=>v = .str (Lib.decDigits u)/\σ'=σ:=by
 refine ACalls.of_ext (u := .string ⟨(Lib.decDigits u).toArray⟩) (fun w vs hs ha=>?_) fun w => .str _
 cases ha with
 | cons h1 h2=>
 cases h2 with
 | cons h2 h3=>
 cases h1;cases h2;cases h3
 by_cases hs2:u<100
 ·exact fmtU_small u hs2 w
 ·exact fmtU_big u (by omega) hu w (tabIs_of hs (by kernel_rfl) h)
theorem fmt_ok {σ:ASt} (h:Tab σ) {u:Nat} (hu:u<18446744073709551616):ACalls Tryz.prog 104 [.int .u64 u,.int .i64 10] σ fun v σ'=>v = .str (Lib.decDigits u)/\σ'=σ:=by
 refine a104 (by simp) ?_
 simp (disch:=first|assumption|omega|(simp only [List.length_append,List.length_cons,List.length_nil];omega)) only [go_sem,reduceCtorEq,Nat.reduceEqDiff,Nat.reduceAdd,Nat.reduceSub,Nat.reduceMul,Nat.reduceLeDiff,Int.reduceLT,Int.reduceLE,Int.reduceEq,↓reduceIte,Int.reduceNeg,Int.reduceAdd,Int.reduceSub,Int.reduceMul,true_imp_iff,forall_const,Nat.mul_one,Int.reduceToNat,Nat.reducePow,Int.reducePow,Bool.true_and,Bool.false_and,Bool.and_false]
 refine (ifmt_ok h hu).mono ?_
 rintro v σ' ⟨rfl,rfl⟩
 simp (disch:=first|assumption|omega|(simp only [List.length_append,List.length_cons,List.length_nil];omega)) only [go_sem,reduceCtorEq,Nat.reduceEqDiff,Nat.reduceAdd,Nat.reduceSub,Nat.reduceMul,Nat.reduceLeDiff,Int.reduceLT,Int.reduceLE,Int.reduceEq,↓reduceIte,Int.reduceNeg,Int.reduceAdd,Int.reduceSub,Int.reduceMul,true_imp_iff,forall_const,Nat.mul_one,Int.reduceToNat,Nat.reducePow,Int.reducePow,Bool.true_and,Bool.false_and,Bool.and_false]
 exact retC_by (Drop.refl _) (.refl _) ⟨rfl,rfl⟩
theorem mul64_ok (x y:Nat) (hx:x<18446744073709551616) (hy:y<18446744073709551616):Pure Tryz.prog 116 [.int .u64 x,.int .u64 y] (.tuple [.int .u64 ((x*y / 18446744073709551616:Nat):Int),.int .u64 ((x*y % 18446744073709551616:Nat):Int)]):=by
 intro σ
 refine ACalls.of_ext (u := .tuple #[.int .u64 ((x*y / 18446744073709551616:Nat):Int),.int .u64 ((x*y % 18446744073709551616:Nat):Int)]) (fun w vs hs ha=>?_) fun w => .tuple (.cons (.int _ _) (.cons (.int _ _) .nil))
 cases ha with
 | cons h1 h2=>
 cases h2 with
 | cons h2 h3=>
 cases h1;cases h2;cases h3
 exact (Tryz.bits_Mul64 x y hx hy w).mono fun e w' ⟨he,hw⟩=>⟨he,Ext.of_eq hw⟩
theorem cutPrefix_ok (s p:List UInt8):Pure Tryz.prog 107 [.str s,.str p] (.tuple [.str (Lib.trimPrefix s p),.bool (Lib.hasPrefix s p)]):=by
 intro σ
 refine ACalls.of_ext (u := .tuple #[.string ⟨(Lib.trimPrefix s p).toArray⟩,.bool (Lib.hasPrefix s p)]) (fun w vs hs ha=>?_) fun w => .tuple (.cons (.str _) (.cons (.bool _) .nil))
 cases ha with
 | cons h1 h2=>
 cases h2 with
 | cons h2 h3=>
 cases h1;cases h2;cases h3
 exact (Tryz.strings_CutPrefix ⟨⟨s⟩⟩ ⟨⟨p⟩⟩ w).mono fun e w' ⟨he,hw⟩=>⟨he,Ext.of_eq hw⟩
theorem trimRight_ok (s:List UInt8) (c:UInt8) (hc:c.toNat<128) (hsl:s.length<=9223372036854775807):Pure Tryz.prog 105 [.str s,.str [c]] (.str (Lib.trimRightB s c)):=by
 intro σ
 refine ACalls.of_ext (u := .string ⟨(Lib.trimRightB s c).toArray⟩) (fun w vs hs ha=>?_) fun w => .str _
 cases ha with
 | cons h1 h2=>
 cases h2 with
 | cons h2 h3=>
 cases h1;cases h2;cases h3
 exact (Tryz.strings_TrimRight_one ⟨⟨s⟩⟩ c hc w (by simpa [ByteArray.size] using hsl)).mono fun e w' ⟨he,hw⟩=>⟨he,Ext.of_eq hw⟩
theorem sindex_ok (s:List UInt8) (c:UInt8):Pure Tryz.prog 115 [.str s,.str [c]] (.int .i64 (Lib.indexByte s c)):=by
 intro σ
 refine ACalls.of_ext (u := .int .i64 (Lib.indexByte s c)) (fun w vs hs ha=>?_) fun w => .int _ _
 cases ha with
 | cons h1 h2=>
 cases h2 with
 | cons h2 h3=>
 cases h1;cases h2;cases h3
 exact (Tryz.stringslite_Index_one ⟨⟨s⟩⟩ c w).mono fun e w' ⟨he,hw⟩=>⟨he,Ext.of_eq hw⟩
theorem cutc_ok (l:List UInt8) (c:UInt8) (hl:l.length<=1000000000):Pure Tryz.prog 88 [.str l,.str [c]] (.tuple [.str (Lib.cut l [c]).1,.str (Lib.cut l [c]).2.1,.bool (Lib.cut l [c]).2.2]):=by
 have h1:Pure Tryz.prog 117 [.str l,.str [c]] (.tuple [.str (Lib.cut l [c]).1,.str (Lib.cut l [c]).2.1,.bool (Lib.cut l [c]).2.2]):=by
  intro σ
  have hi:=sindex_ok l c
  have hr:=Lib.index_room l [c]
  unfold Lib.cut
  rw [Lib.index_one] at hr ⊢
  have hg:=Lib.indexByte_ge l c
  refine a117 (by simp) ?_
  by_cases h0:0<=Lib.indexByte l c
  ·obtain ⟨i,e⟩:∃ i:Nat,Lib.indexByte l c=i:=⟨(Lib.indexByte l c).toNat,by omega⟩
   rw [e] at hi hr ⊢
   have hr:=hr (by omega)
   simp only [List.length_cons,List.length_nil] at hr
   rw [if_pos (by omega)]
   have e1:(0:Int)<=i:=by omega
   have e2:((i:Int)+1).toNat=i+1:=by omega
   have e3:(i:Int)<=l.length:=by omega
   have e4:(i:Int)+1<=l.length:=by omega
   simp (disch:=first|assumption|omega|(simp only [List.length_append,List.length_cons,List.length_nil];omega)) only [go_sem,reduceCtorEq,Nat.reduceEqDiff,Nat.reduceAdd,Nat.reduceSub,Nat.reduceMul,Nat.reduceLeDiff,Int.reduceLT,Int.reduceLE,Int.reduceEq,↓reduceIte,Int.reduceNeg,Int.reduceAdd,Int.reduceSub,Int.reduceMul,true_imp_iff,forall_const,Nat.mul_one,Int.reduceToNat,Nat.reducePow,Int.reducePow,Bool.true_and,Bool.false_and,Bool.and_false]
   refine hi.use ?_
   simp (disch:=first|assumption|omega|(simp only [List.length_append,List.length_cons,List.length_nil];omega)) only [go_sem,reduceCtorEq,Nat.reduceEqDiff,Nat.reduceAdd,Nat.reduceSub,Nat.reduceMul,Nat.reduceLeDiff,Int.reduceLT,Int.reduceLE,Int.reduceEq,↓reduceIte,Int.reduceNeg,Int.reduceAdd,Int.reduceSub,Int.reduceMul,true_imp_iff,forall_const,Nat.mul_one,Int.reduceToNat,Nat.reducePow,Int.reducePow,Bool.true_and,Bool.false_and,Bool.and_false,e1,e2,e3,e4,List.take_length]
   exact retC_by (by repeat' (first|exact Drop.refl _|with_reducible refine Drop.off ?_ (by assumption))) (.refl _) ⟨rfl,rfl⟩
  ·have e:Lib.indexByte l c = -1:=by omega
   rw [e] at hi ⊢
   rw [if_neg (by omega)]
   simp (disch:=first|assumption|omega|(simp only [List.length_append,List.length_cons,List.length_nil];omega)) only [go_sem,reduceCtorEq,Nat.reduceEqDiff,Nat.reduceAdd,Nat.reduceSub,Nat.reduceMul,Nat.reduceLeDiff,Int.reduceLT,Int.reduceLE,Int.reduceEq,↓reduceIte,Int.reduceNeg,Int.reduceAdd,Int.reduceSub,Int.reduceMul,true_imp_iff,forall_const,Nat.mul_one,Int.reduceToNat,Nat.reducePow,Int.reducePow,Bool.true_and,Bool.false_and,Bool.and_false]
   refine hi.use ?_
   simp (disch:=first|assumption|omega|(simp only [List.length_append,List.length_cons,List.length_nil];omega)) only [go_sem,reduceCtorEq,Nat.reduceEqDiff,Nat.reduceAdd,Nat.reduceSub,Nat.reduceMul,Nat.reduceLeDiff,Int.reduceLT,Int.reduceLE,Int.reduceEq,↓reduceIte,Int.reduceNeg,Int.reduceAdd,Int.reduceSub,Int.reduceMul,true_imp_iff,forall_const,Nat.mul_one,Int.reduceToNat,Nat.reducePow,Int.reducePow,Bool.true_and,Bool.false_and,Bool.and_false]
   exact retC_by (by repeat' (first|exact Drop.refl _|with_reducible refine Drop.off ?_ (by assumption))) (.refl _) ⟨rfl,rfl⟩
 intro σ
 refine a88 (by simp) ?_
 simp (disch:=first|assumption|omega|(simp only [List.length_append,List.length_cons,List.length_nil];omega)) only [go_sem,reduceCtorEq,Nat.reduceEqDiff,Nat.reduceAdd,Nat.reduceSub,Nat.reduceMul,Nat.reduceLeDiff,Int.reduceLT,Int.reduceLE,Int.reduceEq,↓reduceIte,Int.reduceNeg,Int.reduceAdd,Int.reduceSub,Int.reduceMul,true_imp_iff,forall_const,Nat.mul_one,Int.reduceToNat,Nat.reducePow,Int.reducePow,Bool.true_and,Bool.false_and,Bool.and_false]
 refine h1.use ?_
 simp (disch:=first|assumption|omega|(simp only [List.length_append,List.length_cons,List.length_nil];omega)) only [go_sem,reduceCtorEq,Nat.reduceEqDiff,Nat.reduceAdd,Nat.reduceSub,Nat.reduceMul,Nat.reduceLeDiff,Int.reduceLT,Int.reduceLE,Int.reduceEq,↓reduceIte,Int.reduceNeg,Int.reduceAdd,Int.reduceSub,Int.reduceMul,true_imp_iff,forall_const,Nat.mul_one,Int.reduceToNat,Nat.reducePow,Int.reducePow,Bool.true_and,Bool.false_and,Bool.and_false]
 exact retC_by (by repeat' (first|exact Drop.refl _|with_reducible refine Drop.off ?_ (by assumption))) (.refl _) ⟨rfl,rfl⟩
end Go.A
section
attribute [local go_sem] reduceCtorEq Nat.reduceEqDiff Nat.reduceAdd Nat.reduceSub Nat.reduceMul Nat.reduceLeDiff Int.reduceLT Int.reduceLE Int.reduceEq Int.reduceNeg Int.reduceAdd Int.reduceSub Int.reduceMul true_imp_iff forall_const Nat.mul_one Int.reduceToNat Nat.reducePow Int.reducePow Bool.true_and Bool.false_and Bool.and_false
attribute [local go_sem ↓] reduceIte
namespace Go.A
open Go.Proofs
def resAV (o:Option Int):AV := .tuple [.int .i64 (o.getD 0),.bool o.isSome]
theorem size_ok (a:Int) (h0 : -9223372036854775808<=a) (h1:a<=9223372036854775807):Pure Tryz.prog 103 [.int .i64 a] (.int .u64 (a.natAbs:Nat)):=by
 intro σ
 refine a103 (by simp) ?_
 by_cases h:a<0
 ·have e:IntKind.u64.wrap (IntKind.i64.wrap (0-a))=((a.natAbs:Nat):Int):=by rw [IntKind.wrap_u64,IntKind.wrap_i64];omega
  simp (disch:=first|assumption|omega|(simp only [List.length_append,List.length_cons,List.length_nil];omega)) only [go_sem,h,e]
  exact retC_by (by repeat' (first|exact Drop.refl _|with_reducible refine Drop.off ?_ (by assumption))) (.refl _) ⟨rfl,rfl⟩
 ·have e:IntKind.u64.wrap a=((a.natAbs:Nat):Int):=by rw [IntKind.wrap_u64];omega
  simp (disch:=first|assumption|omega|(simp only [List.length_append,List.length_cons,List.length_nil];omega)) only [go_sem,h,e]
  exact retC_by (by repeat' (first|exact Drop.refl _|with_reducible refine Drop.off ?_ (by assumption))) (.refl _) ⟨rfl,rfl⟩
theorem made_ok (m:Bool) (lo:Nat) (h:lo<18446744073709551616):Pure Tryz.prog 108 [.bool m,.int .u64 0,.int .u64 lo] (resAV (madeP m lo)):=by
 intro σ
 refine a108 (by simp) ?_
 unfold madeP
 by_cases hm:lo<=999999999999999999
 ·have g1:¬ (999999999999999999:Int)<lo:=by omega
  have e1:IntKind.i64.wrap (lo:Int)=lo:=by rw [IntKind.wrap_i64];omega
  have e2:IntKind.i64.wrap (-(lo:Int)) = -lo:=by rw [IntKind.wrap_i64];omega
  rw [if_pos hm]
  cases m
  ·simp (disch:=first|assumption|omega|(simp only [List.length_append,List.length_cons,List.length_nil];omega)) only [go_sem,g1,e1,e2]
   exact retC_by (by repeat' (first|exact Drop.refl _|with_reducible refine Drop.off ?_ (by assumption))) (.refl _) ⟨rfl,rfl⟩
  ·simp (disch:=first|assumption|omega|(simp only [List.length_append,List.length_cons,List.length_nil];omega)) only [go_sem,g1,e1,e2]
   refine retC_by (by repeat' (first|exact Drop.refl _|with_reducible refine Drop.off ?_ (by assumption))) (.refl _) ⟨?_,rfl⟩
   rw [show (0:Int)-lo = -lo by omega]
   rfl
 ·have g1:(999999999999999999:Int)<lo:=by omega
  rw [if_neg hm]
  simp (disch:=first|assumption|omega|(simp only [List.length_append,List.length_cons,List.length_nil];omega)) only [go_sem,g1]
  exact retC_by (by repeat' (first|exact Drop.refl _|with_reducible refine Drop.off ?_ (by assumption))) (.refl _) ⟨rfl,rfl⟩
theorem dgood_ok (a:Int):Pure Tryz.prog 63 [.int .i64 a] (.bool (decide (a.natAbs<=999999999999999999))):=by
 intro σ
 refine a63 (by simp) ?_
 repeat' (first|(simp (disch:=first|assumption|omega|(simp only [List.length_append,List.length_cons,List.length_nil];omega)) only [go_sem])|with_reducible refine gC_d (fun h=>?_) (fun h=>?_)|with_reducible refine gC_dn (fun h=>?_) (fun h=>?_)|with_reducible refine condC_d (fun h=>?_) (fun h=>?_)|with_reducible refine condC_n (fun h=>?_) (fun h=>?_)|with_reducible refine condC_b (fun h=>?_) (fun h=>?_)|with_reducible refine boxC_by ?_ fun b hb=>?_)
 all_goals (refine retC_by (by repeat' (first|exact Drop.refl _|with_reducible refine Drop.off ?_ (by assumption))) (.refl _) ⟨?_,rfl⟩)
 ·have e:decide (a<=999999999999999999)=decide (a.natAbs<=999999999999999999):=decide_eq_decide.2 (by omega)
  rw [<-e];rfl
 ·rfl
def tensL:List Int := [1,10,100,1000,10000,100000,1000000,10000000,100000000,1000000000,10000000000,100000000000,1000000000000,10000000000000,100000000000000,1000000000000000,10000000000000000,100000000000000000,1000000000000000000]
def Tens (σ:ASt):Prop:=σ 3=some (.fix [.sl .shr (tensL.map (AV.int .u64))])
theorem tens_at {k:Nat} (h:k<19):(tensL.map (AV.int .u64))[k]? = some (.int .u64 ((10 ^ k:Nat):Int)):=by
 have key:∀ k:Nat,k<19->(tensL.map (AV.int .u64))[k]? = some (.int .u64 ((10 ^ k:Nat):Int)):=by
  intro k hk
  have:k∈List.range 19:=List.mem_range.2 hk
  rw [List.getElem?_map]
  have h2:∀ k∈List.range 19,tensL[k]? = some ((10 ^ k:Nat):Int):=by decide +kernel
  rw [h2 k this]
  rfl
 exact key k h
theorem unit_ok {σ:ASt} (hT:Tens σ) (p:Int) (h0 : -14<=p) (h1:p<4):ACalls Tryz.prog 133 [.int .i64 p] σ fun v σ'=>v = .tuple [.int .u64 ((10 ^ (4-p).toNat:Nat):Int),.bool true]/\σ'=σ:=by
 unfold Tens at hT
 refine a133 (by simp) ?_
 have g1:¬ (4:Int)<=p:=by omega
 have g2:¬ p < -14:=by omega
 have e1:IntKind.i64.wrap (4-p)=4-p:=by rw [IntKind.wrap_i64];omega
 have e2:=tens_at (k:=(4-p).toNat) (by omega)
 have e3:(0:Int)<=4-p:=by omega
 have e4:4-p<19:=by omega
 simp (disch:=first|assumption|omega|(simp only [List.length_append,List.length_cons,List.length_nil];omega)) only [go_sem,g1,g2,e1,e2,e3,e4,hT]
 exact retC_by (by repeat' (first|exact Drop.refl _|with_reducible refine Drop.off ?_ (by assumption))) (.refl _) ⟨rfl,rfl⟩
end Go.A
namespace Go.A
open Go.Proofs
theorem round_ok {σ:ASt} (hT:Tens σ) {a p:Int} (ha:a.natAbs<=999999999999999999) (h0 : -14<=p) (h1:p<4):ACalls Tryz.prog 110 [.int .i64 a,.int .i64 p] σ fun v σ'=>v=resAV (roundP a (10 ^ (4-p).toNat))/\σ'=σ:=by
 have hU:=unit_ok hT p h0 h1
 have hu0:0<10 ^ (4-p).toNat:=Nat.pow_pos (by omega)
 have hu1:10 ^ (4-p).toNat<=10 ^ 18:=Nat.pow_le_pow_right (by omega) (by omega)
 generalize 10 ^ (4-p).toNat=u at hU hu0 hu1
 have g1:¬ p < -14:=by omega
 have hS:=size_ok a (by omega) (by omega)
 unfold roundP
 have hz:a.natAbs % u<u:=Nat.mod_lt _ hu0
 have hle:a.natAbs % u<=a.natAbs:=Nat.mod_le _ _
 have hd:((a.natAbs:Nat):Int).tmod (u:Int)=((a.natAbs % u:Nat):Int):=by rw [Int.tmod_eq_emod_of_nonneg (by omega),← Int.natCast_emod]
 obtain ⟨N,hN⟩:∃ N,rndN a.natAbs u=N:=⟨_,rfl⟩
 have hN2:=hN
 unfold rndN at hN2
 rw [hN]
 obtain ⟨s,hs⟩:∃ s,a.natAbs=s:=⟨_,rfl⟩
 obtain ⟨r,hr⟩:∃ r,s % u=r:=⟨_,rfl⟩
 rw [hs] at hS hz hle hd hN2
 rw [hr] at hz hle hd hN2
 have hs18:s<=999999999999999999:=by omega
 have hu18:u<=1000000000000000000:=by omega
 have hune:(u:Int)≠0:=by omega
 have e1:(s:Int)-r=((s-r:Nat):Int):=by omega
 clear hN hs hr
 refine a110 (by simp) ?_
 simp (disch:=first|assumption|omega|(simp only [List.length_append,List.length_cons,List.length_nil];omega)) only [go_sem,g1]
 refine hU.mono ?_
 rintro v σ' ⟨rfl,rfl⟩
 simp (disch:=first|assumption|omega|(simp only [List.length_append,List.length_cons,List.length_nil];omega)) only [go_sem]
 refine hS.use ?_
 simp (disch:=first|assumption|omega|(simp only [List.length_append,List.length_cons,List.length_nil];omega)) only [go_sem,hune,hd]
 by_cases hc:u-r<=r
 ·have g2:(u:Int)-r<=r:=by omega
  rw [if_pos hc] at hN2
  have e2:(s:Int)-r+u=N:=by omega
  simp (disch:=first|assumption|omega|(simp only [List.length_append,List.length_cons,List.length_nil];omega)) only [go_sem,g2,e2]
  refine (made_ok (decide (a<0)) N (by omega)).use ?_
  simp only [resAV]
  simp (disch:=first|assumption|omega|(simp only [List.length_append,List.length_cons,List.length_nil];omega)) only [go_sem]
  exact retC_by (by repeat' (first|exact Drop.refl _|with_reducible refine Drop.off ?_ (by assumption))) (.refl _) ⟨rfl,rfl⟩
 ·have g2:¬ (u:Int)-r<=r:=by omega
  rw [if_neg hc] at hN2
  have e2:(s:Int)-r=N:=by omega
  simp (disch:=first|assumption|omega|(simp only [List.length_append,List.length_cons,List.length_nil];omega)) only [go_sem,g2,e2]
  refine (made_ok (decide (a<0)) N (by omega)).use ?_
  simp only [resAV]
  simp (disch:=first|assumption|omega|(simp only [List.length_append,List.length_cons,List.length_nil];omega)) only [go_sem]
  exact retC_by (by repeat' (first|exact Drop.refl _|with_reducible refine Drop.off ?_ (by assumption))) (.refl _) ⟨rfl,rfl⟩
theorem dtext_ok {σ:ASt} (h:Tab σ) {a:Int} (ha:a.natAbs<=999999999999999999):ACalls Tryz.prog 74 [.int .i64 a] σ fun v σ'=>v = .str (textD a)/\σ'=σ:=by
 have hS:=size_ok a (by omega) (by omega)
 obtain ⟨T,hT⟩:∃ T,textD a=T:=⟨_,rfl⟩
 rw [hT]
 unfold textD placesP at hT
 obtain ⟨s,hs⟩:∃ s,a.natAbs=s:=⟨_,rfl⟩
 rw [hs] at hS hT ha
 have hd:(s:Int).tdiv 10000=((s / 10000:Nat):Int):=by rw [Int.tdiv_eq_ediv_of_nonneg (by omega)];rfl
 have hm:(s:Int).tmod 10000=((s % 10000:Nat):Int):=by rw [Int.tmod_eq_emod_of_nonneg (by omega)];rfl
 have hp:s % 10000<10000:=Nat.mod_lt _ (by omega)
 have hw:s / 10000<=99999999999999:=by omega
 obtain ⟨p,hpp⟩:∃ p,s % 10000=p:=⟨_,rfl⟩
 obtain ⟨q,hqq⟩:∃ q,s / 10000=q:=⟨_,rfl⟩
 rw [hpp] at hp hm hT
 rw [hqq] at hd hw hT
 have hqw:IntKind.u64.wrap (q:Int)=q:=by rw [IntKind.wrap_u64];omega
 refine a74 (by simp) ?_
 simp (disch:=first|assumption|omega|(simp only [List.length_append,List.length_cons,List.length_nil];omega)) only [go_sem]
 refine hS.use ?_
 simp (disch:=first|assumption|omega|(simp only [List.length_append,List.length_cons,List.length_nil];omega)) only [go_sem,hd,hqw]
 refine (fmt_ok h (u:=q) (by omega)).mono ?_
 rintro v σ' ⟨rfl,rfl⟩
 simp (disch:=first|assumption|omega|(simp only [List.length_append,List.length_cons,List.length_nil];omega)) only [go_sem,hm]
 have hql:(Lib.decDigits q).length<=15:=dd_len 14 q (by omega)
 by_cases h0:p=0
 ·subst h0
  rw [if_pos rfl,List.append_nil] at hT
  have g0:¬ (0:Int)<((0:Nat):Int):=by omega
  simp (disch:=first|assumption|omega|(simp only [List.length_append,List.length_cons,List.length_nil];omega)) only [go_sem,g0]
  by_cases hn:a<0
  ·have e1:binS .add [45] (Lib.decDigits q)=some (.str T):=by rw [binS_add (by simp;omega),← hT,if_pos hn]
   simp (disch:=first|assumption|omega|(simp only [List.length_append,List.length_cons,List.length_nil];omega)) only [go_sem,hn,e1]
   exact retC_by (by repeat' (first|exact Drop.refl _|with_reducible refine Drop.off ?_ (by assumption))) (.refl _) ⟨rfl,rfl⟩
  ·rw [if_neg hn,List.nil_append] at hT
   subst hT
   simp (disch:=first|assumption|omega|(simp only [List.length_append,List.length_cons,List.length_nil];omega)) only [go_sem,hn]
   exact retC_by (by repeat' (first|exact Drop.refl _|with_reducible refine Drop.off ?_ (by assumption))) (.refl _) ⟨rfl,rfl⟩
 ·rw [if_neg h0] at hT
  have g0:(0:Int)<(p:Int):=by omega
  have hDl:(Lib.decDigits (10000+p)).length<=5:=dd_len 4 _ (by omega)
  have hD1:1<=(Lib.decDigits (10000+p)).length:=List.length_pos_iff.2 (dd_len_pos _)
  have hF:=fmt_ok h (u:=10000+p) (by omega)
  rw [show (((10000+p:Nat):Int))=(10000:Int)+p by omega] at hF
  have htl:(Lib.decDigits (10000+p)).tail.length<=4:=by rw [List.length_tail];omega
  rw [<-List.drop_one] at hT htl
  generalize Lib.decDigits (10000+p)=D at *
  have hR:=trimRight_ok (D.drop 1) 48 (by decide) (by omega)
  have hRl:(Lib.trimRightB (D.drop 1) 48).length<=4:=by
   have:=congrArg List.length (trim_back 48 (D.drop 1))
   rw [List.length_append] at this
   omega
  generalize Lib.trimRightB (D.drop 1) 48=X at *
  have e1:binS .add [46] X=some (.str (46::X)):=binS_add (by simp;omega)
  have e2:binS .add (Lib.decDigits q) (46::X)=some (.str (Lib.decDigits q++46::X)):=binS_add (by simp;omega)
  have g5:(1:Int)<=D.length:=by omega
  simp (disch:=first|assumption|omega|(simp only [List.length_append,List.length_cons,List.length_nil];omega)) only [go_sem,g0]
  refine hF.mono ?_
  rintro v σ' ⟨rfl,rfl⟩
  simp (disch:=first|assumption|omega|(simp only [List.length_append,List.length_cons,List.length_nil];omega)) only [go_sem,g5,List.take_length]
  refine hR.use ?_
  simp (disch:=first|assumption|omega|(simp only [List.length_append,List.length_cons,List.length_nil];omega)) only [go_sem,e1,e2]
  by_cases hn:a<0
  ·have e3:binS .add [45] (Lib.decDigits q++46::X)=some (.str T):=by rw [binS_add (by simp;omega),← hT,if_pos hn]
   simp (disch:=first|assumption|omega|(simp only [List.length_append,List.length_cons,List.length_nil];omega)) only [go_sem,hn,e3]
   exact retC_by (by repeat' (first|exact Drop.refl _|with_reducible refine Drop.off ?_ (by assumption))) (.refl _) ⟨rfl,rfl⟩
  ·rw [if_neg hn,List.nil_append] at hT
   subst hT
   simp (disch:=first|assumption|omega|(simp only [List.length_append,List.length_cons,List.length_nil];omega)) only [go_sem,hn]
   exact retC_by (by repeat' (first|exact Drop.refl _|with_reducible refine Drop.off ?_ (by assumption))) (.refl _) ⟨rfl,rfl⟩
end Go.A
namespace Go.A
open Go.Proofs
theorem prefix_minus (s:List UInt8):Lib.hasPrefix s [45]=decide (s.head? = some 45):=by
 unfold Lib.hasPrefix
 cases s with
 | nil=>rfl
 | cons c l=>
   simp only [List.isPrefixOf,Bool.and_true,List.head?_cons,Option.some.injEq]
   by_cases h:c=45
   ·subst h;rfl
   ·have h1:(45==c)=false:=by simpa using fun e=>h e.symm
    rw [h1];simp [h]
theorem trim_minus (s:List UInt8):Lib.trimPrefix s [45]=if s.head? = some 45 then s.drop 1 else s:=by
 unfold Lib.trimPrefix
 rw [prefix_minus]
 by_cases h:s.head? = some 45
 ·simp [h]
 ·simp [h]
theorem cut_len (l:List UInt8) (c:UInt8):(Lib.cut l [c]).1.length+(Lib.cut l [c]).2.1.length<=l.length:=by
 unfold Lib.cut
 split
 ·have:=Lib.index_room l [c] (by assumption)
  simp at this ⊢
  omega
 ·simp
set_option maxHeartbeats 1000000 in
theorem dparse_ok (s:List UInt8) (hs:s.length<=100000):Pure Tryz.prog 79 [.str s] (resAV (parseD s)):=by
 intro σ
 have hP:=cutPrefix_ok s [45]
 rw [prefix_minus,trim_minus] at hP
 obtain ⟨R,hR⟩:∃ R,parseD s=R:=⟨_,rfl⟩
 rw [hR]
 unfold parseD at hR
 dsimp only at hR
 generalize hm:decide (s.head? = some 45)=minus at *
 have hbl:(if s.head? = some 45 then s.drop 1 else s).length<=100000:=by
  split
  ·rw [List.length_drop];omega
  ·exact hs
 generalize (if s.head? = some 45 then s.drop 1 else s)=body at *
 have hC:=cutc_ok body 46 (by omega)
 have hCl:=cut_len body 46
 have hnf:(Lib.cut body [46]).2.2=false->(Lib.cut body [46]).2.1 = []:=by
  unfold Lib.cut
  split<;>simp
 generalize (Lib.cut body [46]).1=whole at *
 generalize (Lib.cut body [46]).2.1=part at *
 generalize (Lib.cut body [46]).2.2=dot at *
 unfold parseQ at hR
 obtain ⟨F,hF⟩:∃ F,F=ACode.wp Tryz.prog c79_32:=⟨_,rfl⟩
 have fin:∀ (a:AFr),part.length<=4->(accP 0 (whole++part++List.replicate (4-part.length) 48)).bind (madeP minus)=R->(a 5 = .bool minus/\a 6 = .str whole/\a 7 = .str part)->F (RetQ [.t 2,.t 3] fun v σ'=>v=resAV R/\σ'=σ) a σ:=by
  intro a hp4 hacc hf
  rw [hF]
  have hl2:whole.length+part.length<=9223372036854775807:=by omega
  have g4:(part.length:Int)<=4:=by omega
  have e0:([48,48,48,48]:List UInt8).drop part.length=List.replicate (4-part.length) 48:=by
   have:part.length=0\/part.length=1\/part.length=2\/part.length=3\/part.length=4:=by omega
   rcases this with h|h|h|h|h<;>rw [h]<;>rfl
  have e1:binS .add (whole++part) (List.replicate (4-part.length) 48)=some (.str (whole++part++List.replicate (4-part.length) 48)):=binS_add (by simp;omega)
  obtain ⟨M,hM⟩:∃ M,whole++part++List.replicate (4-part.length) 48=M:=⟨_,rfl⟩
  rw [hM] at hacc e1
  have hMl:M.length<=1000000:=by rw [<-hM];simp;omega
  simp (disch:=first|assumption|omega|(simp only [List.length_append,List.length_cons,List.length_nil];omega)) only [go_sem,hf,hl2,g4,e0,e1]
  refine s2b_shr ?_
  simp (disch:=first|assumption|omega|(simp only [List.length_append,List.length_cons,List.length_nil];omega)) only [go_sem,hf]
  refine wp_loop_on (fun (i:Nat) a σ'=>i<=M.length/\(∃ n:Nat,n<=999999999999999999/\accP 0 M=accP n (M.drop i)/\a 9 = .int .u64 n)/\(a 5 = .bool minus/\a 44 = .sl .shr (bytesAV M)/\a 45 = .int .i64 M.length/\a 46 = .int .i64 i)/\σ'=σ) (fun i=>M.length-i) 0 ⟨Nat.zero_le _,⟨0,by omega,rfl,?_⟩,?_,rfl⟩ ?_
  ·simp (disch:=first|assumption|omega|(simp only [List.length_append,List.length_cons,List.length_nil];omega)) only [go_sem,hf]
  ·simp (disch:=first|assumption|omega|(simp only [List.length_append,List.length_cons,List.length_nil];omega)) only [go_sem,hf]
  rintro i a σ1 ⟨hi,⟨n,hn,hac,hf9⟩,hf,rfl⟩
  rw [hac] at hacc
  by_cases hlt:i<M.length
  ·have hidx : M[i]? = some (M[i]'hlt) := List.getElem?_eq_getElem hlt
   rw [List.drop_eq_getElem_cons hlt] at hac hacc
   obtain ⟨c, hc⟩ : ∃ c, M[i]'hlt = c := ⟨_, rfl⟩
   rw [hc] at hidx hac hacc
   have hlt':(i:Int)<M.length:=by omega
   have hcb:c.toNat<256:=c.toNat_lt
   rw [accP] at hac hacc
   by_cases h1:c.toNat<48
   ·have h1':(c.toNat:Int)<48:=by omega
    rw [if_pos (by omega)] at hacc
    subst hacc
    simp (disch:=first|assumption|omega|(simp only [List.length_append,List.length_cons,List.length_nil];omega)) only [go_sem,hf,hf9,hlt',hidx,h1']
    exact retC_by (by repeat' (first|exact Drop.refl _|with_reducible refine Drop.off ?_ (by assumption))) (.refl _) ⟨rfl,rfl⟩
   have h1':¬ (c.toNat:Int)<48:=by omega
   by_cases h2:57<c.toNat
   ·have h2':(57:Int)<c.toNat:=by omega
    rw [if_pos (by omega)] at hacc
    subst hacc
    simp (disch:=first|assumption|omega|(simp only [List.length_append,List.length_cons,List.length_nil];omega)) only [go_sem,hf,hf9,hlt',hidx,h1',h2']
    exact retC_by (by repeat' (first|exact Drop.refl _|with_reducible refine Drop.off ?_ (by assumption))) (.refl _) ⟨rfl,rfl⟩
   have h2':¬ (57:Int)<c.toNat:=by omega
   by_cases h3:99999999999999999<n
   ·have h3':(99999999999999999:Int)<n:=by omega
    rw [if_pos (by omega)] at hacc
    subst hacc
    simp (disch:=first|assumption|omega|(simp only [List.length_append,List.length_cons,List.length_nil];omega)) only [go_sem,hf,hf9,hlt',hidx,h1',h2',h3']
    exact retC_by (by repeat' (first|exact Drop.refl _|with_reducible refine Drop.off ?_ (by assumption))) (.refl _) ⟨rfl,rfl⟩
   have h3':¬ (99999999999999999:Int)<n:=by omega
   rw [if_neg (by omega)] at hac hacc
   obtain ⟨n2,hn2⟩:∃ n2:Nat,10*n+(c.toNat-48)=n2:=⟨_,rfl⟩
   rw [hn2] at hac hacc
   have e2:10*(n:Int)+((c.toNat:Int)-48)=n2:=by omega
   simp (disch:=first|assumption|omega|(simp only [List.length_append,List.length_cons,List.length_nil];omega)) only [go_sem,hf,hf9,hlt',hidx,h1',h2',h3',e2]
   exact ⟨i+1,by omega,by omega,⟨n2,by omega,hac,rfl⟩,rfl⟩
  ·have hlt':¬ (i:Int)<M.length:=by omega
   rw [List.drop_eq_nil_of_le (by omega),accP,Option.bind_some] at hacc
   subst hacc
   have hMd:=made_ok minus n (by omega)
   simp (disch:=first|assumption|omega|(simp only [List.length_append,List.length_cons,List.length_nil];omega)) only [go_sem,hf,hf9,hlt']
   refine hMd.use ?_
   simp only [resAV]
   simp (disch:=first|assumption|omega|(simp only [List.length_append,List.length_cons,List.length_nil];omega)) only [go_sem]
   exact retC_by (by repeat' (first|exact Drop.refl _|with_reducible refine Drop.off ?_ (by assumption))) (.refl _) ⟨rfl,rfl⟩
 refine a79 (by simp) ?_
 simp (disch:=first|assumption|omega|(simp only [List.length_append,List.length_cons,List.length_nil];omega)) only [go_sem,←hF]
 refine hP.use ?_
 simp (disch:=first|assumption|omega|(simp only [List.length_append,List.length_cons,List.length_nil];omega)) only [go_sem,←hF]
 refine hC.use ?_
 by_cases hw:whole = []
 ·subst hw
  rw [if_pos (.inl rfl)] at hR
  subst hR
  simp (disch:=first|assumption|omega|(simp only [List.length_append,List.length_cons,List.length_nil];omega)) only [go_sem,←hF]
  exact retC_by (by repeat' (first|exact Drop.refl _|with_reducible refine Drop.off ?_ (by assumption))) (.refl _) ⟨rfl,rfl⟩
 cases dot with
 | false=>
   have hp:=hnf rfl
   subst hp
   rw [if_neg (by rintro (h|⟨h,_⟩)<;>contradiction)] at hR
   simp (disch:=first|assumption|omega|(simp only [List.length_append,List.length_cons,List.length_nil];omega)) only [go_sem,hw,←hF]
   refine fin _ (by simp) hR ?_
   simp (disch:=first|assumption|omega|(simp only [List.length_append,List.length_cons,List.length_nil];omega)) only [go_sem]
 | true=>
   by_cases hp:part = []
   ·subst hp
    rw [if_pos (.inr ⟨rfl,.inl rfl⟩)] at hR
    subst hR
    simp (disch:=first|assumption|omega|(simp only [List.length_append,List.length_cons,List.length_nil];omega)) only [go_sem,hw,←hF]
    exact retC_by (by repeat' (first|exact Drop.refl _|with_reducible refine Drop.off ?_ (by assumption))) (.refl _) ⟨rfl,rfl⟩
   by_cases h4:4<part.length
   ·have h4':(4:Int)<part.length:=by omega
    rw [if_pos (.inr ⟨rfl,.inr h4⟩)] at hR
    subst hR
    simp (disch:=first|assumption|omega|(simp only [List.length_append,List.length_cons,List.length_nil];omega)) only [go_sem,hw,hp,h4',←hF]
    exact retC_by (by repeat' (first|exact Drop.refl _|with_reducible refine Drop.off ?_ (by assumption))) (.refl _) ⟨rfl,rfl⟩
   ·have h4':¬ (4:Int)<part.length:=by omega
    rw [if_neg (by rintro (h|⟨_,h|h⟩)<;>contradiction)] at hR
    simp (disch:=first|assumption|omega|(simp only [List.length_append,List.length_cons,List.length_nil];omega)) only [go_sem,hw,hp,h4',←hF]
    refine fin _ (by omega) hR ?_
    simp (disch:=first|assumption|omega|(simp only [List.length_append,List.length_cons,List.length_nil];omega)) only [go_sem]
theorem lcut_ok (s:List UInt8) (n:Nat):Pure Tryz.prog 4 [.str s,.int .i64 n] (.str (s.take n)):=by
 intro σ
 refine a4 (by simp) ?_
 by_cases h:n<s.length
 ·have h':(n:Int)<s.length:=by omega
  have g0:(0:Int)<=n:=by omega
  have g1:(n:Int)<=s.length:=by omega
  simp (disch:=first|assumption|omega|(simp only [List.length_append,List.length_cons,List.length_nil];omega)) only [go_sem,h',g0,g1]
  exact retC_by (by repeat' (first|exact Drop.refl _|with_reducible refine Drop.off ?_ (by assumption))) (.refl _) ⟨rfl,rfl⟩
 ·have h':¬ (n:Int)<s.length:=by omega
  rw [List.take_of_length_le (by omega)]
  simp (disch:=first|assumption|omega|(simp only [List.length_append,List.length_cons,List.length_nil];omega)) only [go_sem,h']
  exact retC_by (by repeat' (first|exact Drop.refl _|with_reducible refine Drop.off ?_ (by assumption))) (.refl _) ⟨rfl,rfl⟩
end Go.A
namespace Go.A
open Go.Proofs
/-! 17: tabular/value.Tell -/
def c17_41:ACode := .seq (.ops [ oe 2 (.alloc [(.int .i64 0),(.int .i64 0),(.str [])])]) (.seq (.seq (.ops [ oq 7 (.mv (.t 0))]) (.block 0 (.seq (.ops [ oq 8 (.ta 88 (.int .i64 0) true (.t 7)),oq 9 (.ext 1 (.t 8)),oq 10 (.ext 0 (.t 8))]) (.cond (.t 9) (.seq (.ops [ oq 3 (.mv (.t 10))]) (.seq (.ops [ oq 11 (.mv (.t 3)),oq 12 (.build [(.int .i64 0),(.int .i64 0),(.str [])] [(0,1,(.v (.int .i64 1))),(1,1,(.t 11))]),oz (.store 3 (.t 2) (.t 12))]) .ret)) (.seq (.ops [ oq 13 (.ta 89 (.str []) true (.t 7)),oq 14 (.ext 1 (.t 13)),oq 15 (.ext 0 (.t 13))]) (.cond (.t 14) (.seq (.ops [ oq 4 (.mv (.t 15))]) (.seq (.ops [ oq 16 (.mv (.t 4)),oq 17 (.build [(.int .i64 0),(.int .i64 0),(.str [])] [(0,1,(.v (.int .i64 2))),(2,1,(.t 16))]),oz (.store 3 (.t 2) (.t 17))]) .ret)) (.seq (.ops [ oq 18 (.ta 90 (.bool false) true (.t 7)),oq 19 (.ext 1 (.t 18)),oq 20 (.ext 0 (.t 18))]) (.cond (.t 19) (.seq (.ops [ oq 5 (.mv (.t 20))]) (.seq (.seq (.ops [ oq 21 (.mv (.t 5))]) (.cond (.t 21) (.seq (.ops [ oq 22 (.build [(.int .i64 0),(.int .i64 0),(.str [])] [(0,1,(.v (.int .i64 3))),(1,1,(.v (.int .i64 1)))]),oz (.store 3 (.t 2) (.t 22))]) .ret) .skip)) (.seq (.ops [ oq 23 (.build [(.int .i64 0),(.int .i64 0),(.str [])] [(0,1,(.v (.int .i64 3)))]),oz (.store 3 (.t 2) (.t 23))]) .ret))) (.seq (.ops [ oq 24 (.ta 46 (.int .i64 0) true (.t 7)),oq 25 (.ext 1 (.t 24)),oq 26 (.ext 0 (.t 24))]) (.cond (.t 25) (.seq (.ops [ oq 6 (.mv (.t 26))]) (.seq (.ops [ oq 27 (.mv (.t 6)),oq 28 (.build [(.int .i64 0),(.int .i64 0),(.str [])] [(0,1,(.v (.int .i64 4))),(1,1,(.t 27))]),oz (.store 3 (.t 2) (.t 28))]) .ret)) .skip)))))))))) (.seq (.ops [ oq 29 (.build [(.int .i64 0),(.int .i64 0),(.str [])] []),oz (.store 3 (.t 2) (.t 29))]) .ret))
@[go_sem] def c17_41_wp:=wp_of c17_41.eq_1
def c17:AFn:=⟨30,[.c 2 (some 3)],c17_41⟩
theorem c17_ok:compF Tryz.prog Tryz.f17=some c17:=by kernel_rfl
theorem a17 {args:List AV} {σ:ASt} {R:AV->ASt->Prop} (hl:args.length<=30) (h:c17_41.wp Tryz.prog (RetQ [.c 2 (some 3)] R) (init args) σ):ACalls Tryz.prog 17 args σ R:=acalls_of Tryz.func17 c17_ok hl h
/-! 19: tabular/value.One -/
def c19_3:ACode := .seq (.ops [ oe 2 (.alloc [(.int .i64 0),(.int .i64 0),(.bool false),(.sl .full [])])]) (.seq (.ops [ oq 3 (.mv (.t 0)),oq 4 (.bsl 1 [(.t 3)]),oq 5 (.build [(.int .i64 0),(.int .i64 0),(.bool false),(.sl .full [])] [(0,1,(.v (.int .i64 1))),(1,1,(.v (.int .i64 1))),(3,1,(.t 4))]),oz (.store 4 (.t 2) (.t 5))]) .ret)
@[go_sem] def c19_3_wp:=wp_of c19_3.eq_1
def c19:AFn:=⟨6,[.c 2 (some 4)],c19_3⟩
theorem c19_ok:compF Tryz.prog Tryz.f19=some c19:=by kernel_rfl
theorem a19 {args:List AV} {σ:ASt} {R:AV->ASt->Prop} (hl:args.length<=6) (h:c19_3.wp Tryz.prog (RetQ [.c 2 (some 4)] R) (init args) σ):ACalls Tryz.prog 19 args σ R:=acalls_of Tryz.func19 c19_ok hl h
/-! 20: tabular/value.Of -/
def c20_38:ACode := .seq (.ops [ oe 1 (.box (.t 0)),oq 2 (.mv (.v .nili))]) (.seq (.seq (.ops [ oq 5 (.fa 0 (.t 1)),oq 6 (.ld none (.t 5))]) (.block 0 (.seq (.ops [ oq 8 (.bin .eql (.t 6) (.v (.int .i64 1))),oq 7 (.mv (.t 8))]) (.cond (.t 7) (.seq (.ops [ oq 9 (.fa 1 (.t 1)),oq 10 (.ld none (.t 9)),oe 11 (.call 63 [(.t 10)])]) (.cond (.t 11) (.seq (.ops [ oq 12 (.fa 1 (.t 1)),oq 13 (.ld none (.t 12)),oq 14 (.mki 88 (.t 13)),oq 2 (.mv (.t 14))]) .ret) .skip)) (.seq (.ops [ oq 16 (.bin .eql (.t 6) (.v (.int .i64 2))),oq 15 (.mv (.t 16))]) (.cond (.t 15) (.seq (.ops [ oq 18 (.fa 2 (.t 1)),oq 19 (.ld none (.t 18)),oe 20 (.call 64 [(.t 19)]),oq 17 (.mv (.t 20)),oq 21 (.ext 0 (.t 17)),oq 22 (.ext 1 (.t 17)),oq 3 (.mv (.t 21)),oq 4 (.mv (.t 22))]) (.seq (.ops [ oq 23 (.mv (.t 4)),oq 24 (.mv (.t 23)),⟨some 25,some (24,true),.q (.fa 2 (.t 1)),[]⟩,⟨some 26,some (24,true),.q (.ld none (.t 25)),[]⟩,⟨some 27,some (24,true),.q (.lenS (.t 26)),[]⟩,⟨some 28,some (24,true),.q (.bin .leq (.t 27) (.v (.int .i64 2000))),[]⟩,oq 29 (.pick (.t 24) (.t 28) (.v (.bool false)))]) (.cond (.t 29) (.seq (.ops [ oq 30 (.fa 2 (.t 1)),oq 31 (.ld none (.t 30)),oq 32 (.mki 89 (.t 31)),oq 2 (.mv (.t 32))]) .ret) .skip))) (.seq (.ops [ oq 34 (.bin .eql (.t 6) (.v (.int .i64 3))),oq 33 (.mv (.t 34))]) (.cond (.t 33) (.seq (.ops [ oq 35 (.fa 1 (.t 1)),oq 36 (.ld none (.t 35)),oq 37 (.bin .eql (.t 36) (.v (.int .i64 1))),oq 38 (.mki 90 (.t 37)),oq 2 (.mv (.t 38))]) .ret) (.seq (.ops [ oq 40 (.bin .eql (.t 6) (.v (.int .i64 4))),oq 39 (.mv (.t 40))]) (.cond (.t 39) (.seq (.ops [ oq 41 (.fa 1 (.t 1)),oq 42 (.ld none (.t 41)),oq 43 (.bin .geq (.t 42) (.v (.int .i64 1))),oq 44 (.mv (.t 43)),⟨some 45,some (44,true),.q (.fa 1 (.t 1)),[]⟩,⟨some 46,some (44,true),.q (.ld none (.t 45)),[]⟩,⟨some 47,some (44,true),.e (.call 45 []),[⟨(some (44,true)),.ld none (.t 45),46⟩]⟩,⟨some 48,some (44,true),.q (.len (.t 47)),[]⟩,⟨some 49,some (44,true),.q (.bin .leq (.t 46) (.t 48)),[]⟩,oq 50 (.pick (.t 44) (.t 49) (.v (.bool false)))]) (.cond (.t 50) (.seq (.ops [ oq 51 (.fa 1 (.t 1)),oq 52 (.ld none (.t 51)),oq 53 (.mki 46 (.t 52)),oq 2 (.mv (.t 53))]) .ret) .skip)) .skip)))))))))) (.seq (.ops [ oq 54 (.build [] []),oq 55 (.mki 108 (.t 54)),oq 2 (.mv (.t 55))]) .ret))
@[go_sem] def c20_38_wp:=wp_of c20_38.eq_1
def c20:AFn:=⟨56,[.t 2],c20_38⟩
theorem c20_ok:compF Tryz.prog Tryz.f20=some c20:=by kernel_rfl
theorem a20 {args:List AV} {σ:ASt} {R:AV->ASt->Prop} (hl:args.length<=56) (h:c20_38.wp Tryz.prog (RetQ [.t 2] R) (init args) σ):ACalls Tryz.prog 20 args σ R:=acalls_of Tryz.func20 c20_ok hl h
/-! 43: (tabular/value.Arg).Value -/
def c43_9:ACode := .seq (.ops [ oe 1 (.box (.t 0)),oq 2 (.mv (.v .nili))]) (.seq (.seq (.ops [ oq 3 (.fa 3 (.t 1)),oq 4 (.ld none (.t 3)),oq 5 (.len (.t 4)),oq 6 (.bin .neq (.t 5) (.v (.int .i64 1)))]) (.cond (.t 6) (.seq (.ops [ oq 7 (.mki 46 (.v (.int .i64 3))),oq 2 (.mv (.t 7))]) .ret) .skip)) (.seq (.ops [ oq 8 (.fa 3 (.t 1)),oq 9 (.ld none (.t 8)),oq 10 (.ia 1 (.t 9) (.v (.int .i64 0))),oq 11 (.ld none (.t 10)),oq 2 (.mv (.t 11))]) .ret))
@[go_sem] def c43_9_wp:=wp_of c43_9.eq_1
def c43:AFn:=⟨12,[.t 2],c43_9⟩
theorem c43_ok:compF Tryz.prog Tryz.f43=some c43:=by kernel_rfl
theorem a43 {args:List AV} {σ:ASt} {R:AV->ASt->Prop} (hl:args.length<=12) (h:c43_9.wp Tryz.prog (RetQ [.t 2] R) (init args) σ):ACalls Tryz.prog 43 args σ R:=acalls_of Tryz.func43 c43_ok hl h
/-! 44: tabular/value.Failed -/
def c44_5:ACode := .seq (.ops [ oq 2 (.mv (.v (.int .i64 0))),oq 3 (.mv (.v (.bool false)))]) (.seq (.ops [ oq 7 (.mv (.t 0)),oq 8 (.ta 46 (.int .i64 0) true (.t 7)),oq 6 (.mv (.t 8)),oq 9 (.ext 0 (.t 6)),oq 10 (.ext 1 (.t 6)),oq 4 (.mv (.t 9)),oq 5 (.mv (.t 10))]) (.seq (.ops [ oq 11 (.mv (.t 4)),oq 12 (.mv (.t 5)),oq 2 (.mv (.t 11)),oq 3 (.mv (.t 12))]) .ret))
@[go_sem] def c44_5_wp:=wp_of c44_5.eq_1
def c44:AFn:=⟨13,[.t 2,.t 3],c44_5⟩
theorem c44_ok:compF Tryz.prog Tryz.f44=some c44:=by kernel_rfl
theorem a44 {args:List AV} {σ:ASt} {R:AV->ASt->Prop} (hl:args.length<=13) (h:c44_5.wp Tryz.prog (RetQ [.t 2,.t 3] R) (init args) σ):ACalls Tryz.prog 44 args σ R:=acalls_of Tryz.func44 c44_ok hl h
/-! 45: tabular/token.Errors -/
def c45_3:ACode := .seq (.ops [ oq 0 (.mv (.v (.sl .full [])))]) (.seq (.ops [ oq 1 (.bsl 1 [(.v (.str [35,68,73,86,47,48,33])),(.v (.str [35,78,85,77,33])),(.v (.str [35,86,65,76,85,69,33])),(.v (.str [35,82,69,70,33])),(.v (.str [35,78,47,65])),(.v (.str [35,78,65,77,69,63])),(.v (.str [35,67,89,67,76,69,33]))]),oq 0 (.mv (.t 1))]) .ret)
@[go_sem] def c45_3_wp:=wp_of c45_3.eq_1
def c45:AFn:=⟨2,[.t 0],c45_3⟩
theorem c45_ok:compF Tryz.prog Tryz.f45=some c45:=by kernel_rfl
theorem a45 {args:List AV} {σ:ASt} {R:AV->ASt->Prop} (hl:args.length<=2) (h:c45_3.wp Tryz.prog (RetQ [.t 0] R) (init args) σ):ACalls Tryz.prog 45 args σ R:=acalls_of Tryz.func45 c45_ok hl h
/-! 50: tabular/value.AsNumber -/
def c50_49:ACode := .seq (.ops [ oq 2 (.mv (.v (.int .i64 0))),oq 3 (.mv (.v (.int .i64 0)))]) (.seq (.seq (.ops [ oq 10 (.mv (.t 0))]) (.block 0 (.seq (.ops [ oq 11 (.ta 88 (.int .i64 0) true (.t 10)),oq 12 (.ext 1 (.t 11)),oq 13 (.ext 0 (.t 11))]) (.cond (.t 12) (.seq (.ops [ oq 4 (.mv (.t 13))]) (.seq (.ops [ oq 14 (.mv (.t 4)),oq 2 (.mv (.t 14)),oq 3 (.mv (.v (.int .i64 0)))]) .ret)) (.seq (.ops [ oq 15 (.ta 90 (.bool false) true (.t 10)),oq 16 (.ext 1 (.t 15)),oq 17 (.ext 0 (.t 15))]) (.cond (.t 16) (.seq (.ops [ oq 5 (.mv (.t 17))]) (.seq (.seq (.ops [ oq 18 (.mv (.t 5))]) (.cond (.t 18) (.seq (.ops [ oq 2 (.mv (.v (.int .i64 10000))),oq 3 (.mv (.v (.int .i64 0)))]) .ret) .skip)) (.seq (.ops [ oq 2 (.mv (.v (.int .i64 0))),oq 3 (.mv (.v (.int .i64 0)))]) .ret))) (.seq (.ops [ oq 19 (.ta 89 (.str []) true (.t 10)),oq 20 (.ext 1 (.t 19)),oq 21 (.ext 0 (.t 19))]) (.cond (.t 20) (.seq (.ops [ oq 6 (.mv (.t 21))]) (.seq (.seq (.ops [ oq 23 (.mv (.t 6)),oe 24 (.call 80 [(.t 23)]),oe 25 (.call 79 [(.t 24)]),oq 22 (.mv (.t 25)),oq 26 (.ext 0 (.t 22)),oq 27 (.ext 1 (.t 22)),oq 7 (.mv (.t 26)),oq 8 (.mv (.t 27))]) (.seq (.ops [ oq 28 (.mv (.t 8))]) (.cond (.t 28) (.seq (.ops [ oq 29 (.mv (.t 7)),oq 2 (.mv (.t 29)),oq 3 (.mv (.v (.int .i64 0)))]) .ret) .skip))) (.seq (.ops [ oq 2 (.mv (.v (.int .i64 0))),oq 3 (.mv (.v (.int .i64 3)))]) .ret))) (.seq (.ops [ oq 30 (.ta 46 (.int .i64 0) true (.t 10)),oq 31 (.ext 1 (.t 30)),oq 32 (.ext 0 (.t 30))]) (.cond (.t 31) (.seq (.ops [ oq 9 (.mv (.t 32))]) (.seq (.ops [ oq 33 (.mv (.t 9)),oq 2 (.mv (.v (.int .i64 0))),oq 3 (.mv (.t 33))]) .ret)) .skip)))))))))) (.seq (.ops [ oq 2 (.mv (.v (.int .i64 0))),oq 3 (.mv (.v (.int .i64 0)))]) .ret))
@[go_sem] def c50_49_wp:=wp_of c50_49.eq_1
def c50:AFn:=⟨34,[.t 2,.t 3],c50_49⟩
theorem c50_ok:compF Tryz.prog Tryz.f50=some c50:=by kernel_rfl
theorem a50 {args:List AV} {σ:ASt} {R:AV->ASt->Prop} (hl:args.length<=34) (h:c50_49.wp Tryz.prog (RetQ [.t 2,.t 3] R) (init args) σ):ACalls Tryz.prog 50 args σ R:=acalls_of Tryz.func50 c50_ok hl h
/-! 64: tabular/token.Signs -/
def c64_21:ACode := .seq (.ops [ oe 11 (.nxt (.t 10)),oq 12 (.ext 0 (.t 11))]) (.seq (.cond (.t 12) .skip (.exit 0)) (.block 1 (.seq (.ops [ oq 13 (.ext 1 (.t 11)),oq 14 (.ext 2 (.t 11)),oq 5 (.mv (.t 13)),oq 6 (.mv (.t 14))]) (.seq (.seq (.ops [ oq 15 (.mv (.t 6)),oq 16 (.bin .eql (.t 15) (.v (.int .i32 65533)))]) (.cond (.t 16) (.seq (.ops [ oq 18 (.mv (.t 0)),oq 19 (.mv (.t 5)),oq 20 (.slfrom (true,0) (.t 18) (.t 19)),oe 21 (.call 97 [(.t 20)]),oq 17 (.mv (.t 21)),oq 22 (.ext 0 (.t 17)),oq 23 (.ext 1 (.t 17)),oq 7 (.mv (.t 22)),oq 8 (.mv (.t 23))]) (.seq (.ops [ oq 24 (.mv (.t 8)),oq 25 (.bin .eql (.t 24) (.v (.int .i64 1)))]) (.cond (.t 25) (.seq (.ops [ oq 2 (.mv (.v (.int .i64 0))),oq 3 (.mv (.v (.bool false)))]) .ret) .skip))) .skip)) (.ops [ oq 26 (.mv (.t 4)),oq 27 (.bin .add (.t 26) (.v (.int .i64 1))),oq 4 (.mv (.t 27))])))))
def c64_26:ACode := .seq (.ops [ oq 28 (.mv (.t 4)),oq 2 (.mv (.t 28)),oq 3 (.mv (.v (.bool true)))]) .ret
def c64_29:ACode := .seq (.ops [ oq 2 (.mv (.v (.int .i64 0))),oq 3 (.mv (.v (.bool false)))]) (.seq (.ops [ oq 4 (.mv (.v (.int .i64 0)))]) (.seq (.seq (.ops [ oq 9 (.mv (.t 0)),oe 10 (.rng (.t 9))]) (.block 0 (.loop c64_21))) c64_26))
@[go_sem] def c64_21_wp:=wp_of c64_21.eq_1
@[go_sem] def c64_26_wp:=wp_of c64_26.eq_1
@[go_sem] def c64_29_wp:=wp_of c64_29.eq_1
def c64:AFn:=⟨29,[.t 2,.t 3],c64_29⟩
theorem c64_ok:compF Tryz.prog Tryz.f64=some c64:=by kernel_rfl
theorem a64 {args:List AV} {σ:ASt} {R:AV->ASt->Prop} (hl:args.length<=29) (h:c64_29.wp Tryz.prog (RetQ [.t 2,.t 3] R) (init args) σ):ACalls Tryz.prog 64 args σ R:=acalls_of Tryz.func64 c64_ok hl h
/-! 80: tabular/value.trim -/
def c80_3:ACode := .seq (.ops [ oq 2 (.mv (.v (.str [])))]) (.seq (.ops [ oq 3 (.mv (.t 0)),oe 4 (.call 109 [(.t 3),(.v (.str [32]))]),oq 2 (.mv (.t 4))]) .ret)
@[go_sem] def c80_3_wp:=wp_of c80_3.eq_1
def c80:AFn:=⟨5,[.t 2],c80_3⟩
theorem c80_ok:compF Tryz.prog Tryz.f80=some c80:=by kernel_rfl
theorem a80 {args:List AV} {σ:ASt} {R:AV->ASt->Prop} (hl:args.length<=5) (h:c80_3.wp Tryz.prog (RetQ [.t 2] R) (init args) σ):ACalls Tryz.prog 80 args σ R:=acalls_of Tryz.func80 c80_ok hl h
/-! 86: tabular/value.Counted -/
def c86_9:ACode := .seq (.ops [ oq 4 (.mv (.v .nili))]) (.seq (.seq (.ops [ oq 5 (.mv (.t 1)),oq 6 (.un .not (.t 5))]) (.cond (.t 6) (.seq (.ops [ oq 7 (.mki 46 (.v (.int .i64 2))),oq 4 (.mv (.t 7))]) .ret) .skip)) (.seq (.ops [ oq 8 (.mv (.t 0)),oq 9 (.mki 88 (.t 8)),oq 4 (.mv (.t 9))]) .ret))
@[go_sem] def c86_9_wp:=wp_of c86_9.eq_1
def c86:AFn:=⟨10,[.t 4],c86_9⟩
theorem c86_ok:compF Tryz.prog Tryz.f86=some c86:=by kernel_rfl
theorem a86 {args:List AV} {σ:ASt} {R:AV->ASt->Prop} (hl:args.length<=10) (h:c86_9.wp Tryz.prog (RetQ [.t 4] R) (init args) σ):ACalls Tryz.prog 86 args σ R:=acalls_of Tryz.func86 c86_ok hl h
end Go.A
namespace Go.A
open Go.Proofs
section
variable {σ0 σ:ASt} {k:SK} {n s c:Nat} {q:Role}
theorem set_swap2 {b c:Nat} {r q:Option Role} (h:b≠c):(σ.set b r).set c q=(σ.set c q).set b r:=by
 funext x
 simp only [ASt.set]
 by_cases h1:x=c
 ·subst h1;simp [h.symm]
 ·simp [h1]
theorem Grown.upon (hg:Grown σ0 σ k n s) (hc:σ c=none):Grown (σ0.set c (some q)) (σ.set c (some q)) k n s/\σ0 c=none:=by
 rcases hg with ⟨h1,h2,rfl⟩|⟨t,T,h1,h2,rfl⟩
 ·exact ⟨.inl ⟨h1,h2,rfl⟩,hc⟩
 ·obtain ⟨h3,h4,h5⟩:=set_none hc
  exact ⟨.inr ⟨t,T,h1,by rw [ASt.set_ne h4];exact h2,set_swap2 h4⟩,h5⟩
theorem Grown.off (h:Grown (σ0.set c (some q)) σ k n s) (hc:σ0 c=none):∃ σ',Drop σ σ'/\Grown σ0 σ' k n s:=by
 rcases h with ⟨h1,h2,rfl⟩|⟨t,T,h1,h2,rfl⟩
 ·exact ⟨σ0,Drop.set hc,.inl ⟨h1,h2,rfl⟩⟩
 ·obtain ⟨h3,h4,h5⟩:=set_none h2
  refine ⟨σ0.set t (some (.tok (n*s))),?_,.inr ⟨t,T,h1,h5,rfl⟩⟩
  rw [set_swap2 h4]
  exact Drop.set (by rw [ASt.set_ne h4];exact hc)
end
inductive PV where
 | blank
 | num (n:Int)
 | text (s:List UInt8)
 | bool (b:Bool)
 | fail (n:Int)
 deriving DecidableEq
def PV.av:PV->AV
 | .blank => .iface 108 (.agg [])
 | .num n => .iface 88 (.int .i64 n)
 | .text s => .iface 89 (.str s)
 | .bool b => .iface 90 (.bool b)
 | .fail n => .iface 46 (.int .i64 n)
theorem PV.av_cells (v:PV):v.av.cells = [v.av]:=by cases v<;>rfl
theorem PV.av_any (v:PV):v.av.isAny=false:=by cases v<;>rfl
def PV.small:PV->Prop
 | .text s=>s.length<=100000
 | _=>True
def argAV (v:PV):AV := .agg [.int .i64 1,.int .i64 1,.bool false,.sl .full [v.av]]
theorem argAV_any (v:PV):(argAV v).isAny=false:=rfl
theorem argAV_len (v:PV):(argAV v).cells.length=4:=rfl
def asNum:PV->Int×Int
 | .blank=>(0,0)
 | .num n=>(n,0)
 | .text s=>match parseD (Lib.trimB s 32) with
   | some n=>(n,0)
   | none=>(0,3)
 | .bool b=>(if b=true then 10000 else 0,0)
 | .fail f=>(0,f)
theorem sTrim_ok (s:List UInt8) (hs:s.length<=9223372036854775807):Pure Tryz.prog 109 [.str s,.str [32]] (.str (Lib.trimB s 32)):=by
 intro σ
 refine ACalls.of_ext (u := .string ⟨(Lib.trimB s 32).toArray⟩) (fun w vs hs' ha=>?_) fun w => .str _
 cases ha with
 | cons h1 h2=>
 cases h2 with
 | cons h2 h3=>
 cases h1;cases h2;cases h3
 exact (Tryz.strings_Trim_one ⟨⟨s⟩⟩ 32 (by decide) w hs).mono fun e w' ⟨he,hw⟩=>⟨he,by rcases hw with rfl|rfl;exact Ext.refl _;exact .drew (.refl _)⟩
theorem trimB_len (s:List UInt8) (c:UInt8):(Lib.trimB s c).length<=s.length:=by
 unfold Lib.trimB
 have h1:∀ l:List UInt8,(Lib.trimRightB l c).length<=l.length:=by
  intro l
  unfold Lib.trimRightB
  rw [List.length_reverse]
  exact Nat.le_trans (List.dropWhile_sublist _).length_le (by simp)
 have h2:∀ l:List UInt8,(Lib.trimLeftB l c).length<=l.length:=by
  intro l
  unfold Lib.trimLeftB
  exact (List.dropWhile_sublist _).length_le
 exact Nat.le_trans (h2 _) (h1 _)
theorem trim_ok (s:List UInt8) (hs:s.length<=9223372036854775807):Pure Tryz.prog 80 [.str s] (.str (Lib.trimB s 32)):=by
 intro σ
 have hT:=sTrim_ok s hs
 refine a80 (by simp) ?_
 simp (disch:=first|assumption|omega|(simp only [List.length_append,List.length_cons,List.length_nil];omega)) only [go_sem]
 refine hT.use ?_
 simp (disch:=first|assumption|omega|(simp only [List.length_append,List.length_cons,List.length_nil];omega)) only [go_sem]
 exact retC_by (by repeat' (first|exact Drop.refl _|with_reducible refine Drop.off ?_ (by assumption))) (.refl _) ⟨rfl,rfl⟩
theorem asNumber_ok (v:PV) (hv:v.small):Pure Tryz.prog 50 [v.av] (.tuple [.int .i64 (asNum v).1,.int .i64 (asNum v).2]):=by
 intro σ
 refine a50 (by simp) ?_
 cases v with
 | blank=>
   simp only [PV.av,asNum]
   simp (disch:=first|assumption|omega|(simp only [List.length_append,List.length_cons,List.length_nil];omega)) only [go_sem]
   exact retC_by (by repeat' (first|exact Drop.refl _|with_reducible refine Drop.off ?_ (by assumption))) (.refl _) ⟨rfl,rfl⟩
 | num n=>
   simp only [PV.av,asNum]
   simp (disch:=first|assumption|omega|(simp only [List.length_append,List.length_cons,List.length_nil];omega)) only [go_sem]
   exact retC_by (by repeat' (first|exact Drop.refl _|with_reducible refine Drop.off ?_ (by assumption))) (.refl _) ⟨rfl,rfl⟩
 | text s=>
   have hs:s.length<=100000:=hv
   have hT:=trim_ok s (by omega)
   have hP:=dparse_ok (Lib.trimB s 32) (by have:=trimB_len s 32;omega)
   simp only [PV.av,asNum]
   generalize Lib.trimB s 32=t at *
   cases ho:parseD t with
   | none=>
     rw [ho] at hP
     simp only [resAV,Option.getD_none,Option.isSome_none] at hP
     simp (disch:=first|assumption|omega|(simp only [List.length_append,List.length_cons,List.length_nil];omega)) only [go_sem]
     refine hT.use ?_
     simp (disch:=first|assumption|omega|(simp only [List.length_append,List.length_cons,List.length_nil];omega)) only [go_sem]
     refine hP.use ?_
     simp (disch:=first|assumption|omega|(simp only [List.length_append,List.length_cons,List.length_nil];omega)) only [go_sem]
     exact retC_by (by repeat' (first|exact Drop.refl _|with_reducible refine Drop.off ?_ (by assumption))) (.refl _) ⟨rfl,rfl⟩
   | some n=>
     rw [ho] at hP
     simp only [resAV,Option.getD_some,Option.isSome_some] at hP
     simp (disch:=first|assumption|omega|(simp only [List.length_append,List.length_cons,List.length_nil];omega)) only [go_sem]
     refine hT.use ?_
     simp (disch:=first|assumption|omega|(simp only [List.length_append,List.length_cons,List.length_nil];omega)) only [go_sem]
     refine hP.use ?_
     simp (disch:=first|assumption|omega|(simp only [List.length_append,List.length_cons,List.length_nil];omega)) only [go_sem]
     exact retC_by (by repeat' (first|exact Drop.refl _|with_reducible refine Drop.off ?_ (by assumption))) (.refl _) ⟨rfl,rfl⟩
 | bool b=>
   simp only [PV.av,asNum]
   cases b
   ·simp (disch:=first|assumption|omega|(simp only [List.length_append,List.length_cons,List.length_nil];omega)) only [go_sem]
    exact retC_by (by repeat' (first|exact Drop.refl _|with_reducible refine Drop.off ?_ (by assumption))) (.refl _) ⟨rfl,rfl⟩
   ·simp (disch:=first|assumption|omega|(simp only [List.length_append,List.length_cons,List.length_nil];omega)) only [go_sem]
    exact retC_by (by repeat' (first|exact Drop.refl _|with_reducible refine Drop.off ?_ (by assumption))) (.refl _) ⟨rfl,rfl⟩
 | fail f=>
   simp only [PV.av,asNum]
   simp (disch:=first|assumption|omega|(simp only [List.length_append,List.length_cons,List.length_nil];omega)) only [go_sem]
   exact retC_by (by repeat' (first|exact Drop.refl _|with_reducible refine Drop.off ?_ (by assumption))) (.refl _) ⟨rfl,rfl⟩
theorem argval_ok (v:PV):Pure Tryz.prog 43 [argAV v] v.av:=by
 intro σ
 unfold argAV
 have h1:=PV.av_cells v
 have h2:=PV.av_any v
 obtain ⟨x,hx⟩:∃ x,v.av=x:=⟨_,rfl⟩
 rw [hx] at h1 h2 ⊢
 refine a43 (by simp) ?_
 simp (disch:=first|assumption|omega|(simp only [List.length_append,List.length_cons,List.length_nil];omega)) only [go_sem]
 refine boxC_by rfl fun b hb=>?_
 simp (disch:=first|assumption|omega|(simp only [List.length_append,List.length_cons,List.length_nil];omega)) only [go_sem,h1,h2]
 exact retC_by (by repeat' (first|exact Drop.refl _|with_reducible refine Drop.off ?_ (by assumption))) (.refl _) ⟨by cases v<;>subst hx<;>rfl,rfl⟩
theorem vone_ok (v:PV):Pure Tryz.prog 19 [v.av] (argAV v):=by
 intro σ
 unfold argAV
 have h1:=PV.av_cells v
 have h2:=PV.av_any v
 generalize v.av=x at *
 refine a19 (by simp) ?_
 simp (disch:=first|assumption|omega|(simp only [List.length_append,List.length_cons,List.length_nil];omega)) only [go_sem,h1,h2]
 refine allocC_by fun b hb=>?_
 simp (disch:=first|assumption|omega|(simp only [List.length_append,List.length_cons,List.length_nil];omega)) only [go_sem,h1,h2]
 exact retC_by (by repeat' (first|exact Drop.refl _|with_reducible refine Drop.off ?_ (by assumption))) (.refl _) ⟨rfl,rfl⟩
def cntP:Option Int->PV
 | some n => .num n
 | none => .fail 2
theorem counted_ok (o:Option Int):Pure Tryz.prog 86 [.int .i64 (o.getD 0),.bool o.isSome] (cntP o).av:=by
 intro σ
 refine a86 (by simp) ?_
 cases o with
 | none=>
   simp only [cntP,PV.av,Option.getD_none,Option.isSome_none]
   simp (disch:=first|assumption|omega|(simp only [List.length_append,List.length_cons,List.length_nil];omega)) only [go_sem]
   exact retC_by (by repeat' (first|exact Drop.refl _|with_reducible refine Drop.off ?_ (by assumption))) (.refl _) ⟨rfl,rfl⟩
 | some n=>
   simp only [cntP,PV.av,Option.getD_some,Option.isSome_some]
   simp (disch:=first|assumption|omega|(simp only [List.length_append,List.length_cons,List.length_nil];omega)) only [go_sem]
   exact retC_by (by repeat' (first|exact Drop.refl _|with_reducible refine Drop.off ?_ (by assumption))) (.refl _) ⟨rfl,rfl⟩
def failedP:PV->Int×Bool
 | .fail n=>(n,true)
 | _=>(0,false)
theorem failed_ok (v:PV):Pure Tryz.prog 44 [v.av] (.tuple [.int .i64 (failedP v).1,.bool (failedP v).2]):=by
 intro σ
 refine a44 (by simp) ?_
 cases v<;>simp only [PV.av,failedP]<;>simp (disch:=first|assumption|omega|(simp only [List.length_append,List.length_cons,List.length_nil];omega)) only [go_sem]
 all_goals exact retC_by (by repeat' (first|exact Drop.refl _|with_reducible refine Drop.off ?_ (by assumption))) (.refl _) ⟨rfl,rfl⟩
def tellAV:PV->AV
 | .blank => .agg [.int .i64 0,.int .i64 0,.str []]
 | .num n => .agg [.int .i64 1,.int .i64 n,.str []]
 | .text s => .agg [.int .i64 2,.int .i64 0,.str s]
 | .bool b => .agg [.int .i64 3,.int .i64 (if b=true then 1 else 0),.str []]
 | .fail n => .agg [.int .i64 4,.int .i64 n,.str []]
theorem tell_ok (v:PV):Pure Tryz.prog 17 [v.av] (tellAV v):=by
 intro σ
 refine a17 (by simp) ?_
 cases v with
 | bool b=>
   cases b<;>simp only [PV.av,tellAV]<;>simp (disch:=first|assumption|omega|(simp only [List.length_append,List.length_cons,List.length_nil];omega)) only [go_sem]
   all_goals
    refine allocC_by fun b hb=>?_
    simp (disch:=first|assumption|omega|(simp only [List.length_append,List.length_cons,List.length_nil];omega)) only [go_sem]
    exact retC_by (by repeat' (first|exact Drop.refl _|with_reducible refine Drop.off ?_ (by assumption))) (.refl _) ⟨rfl,rfl⟩
 | _=>
   simp only [PV.av,tellAV]
   simp (disch:=first|assumption|omega|(simp only [List.length_append,List.length_cons,List.length_nil];omega)) only [go_sem]
   refine allocC_by fun b hb=>?_
   simp (disch:=first|assumption|omega|(simp only [List.length_append,List.length_cons,List.length_nil];omega)) only [go_sem]
   exact retC_by (by repeat' (first|exact Drop.refl _|with_reducible refine Drop.off ?_ (by assumption))) (.refl _) ⟨rfl,rfl⟩
end Go.A
namespace Go.A
open Go.Proofs Go.Lib
set_option maxHeartbeats 1000000 in
theorem signs_ok {σ:ASt} (h:U8 σ) (s:List UInt8) (hs:s.length<=4611686018427387904):ACalls Tryz.prog 64 [.str s] σ fun v σ'=>v=sgAV s/\σ'=σ:=by
 refine a64 (by simp) ?_
 obtain ⟨R,hR⟩:∃ R,sgT s=R:=⟨_,rfl⟩
 unfold sgAV
 rw [hR]
 obtain ⟨F,hF⟩:∃ F,F=ACode.wp Tryz.prog c64_26:=⟨_,rfl⟩
 simp (disch:=first|assumption|omega|(simp only [List.length_append,List.length_cons,List.length_nil];omega)) only [go_sem,←hF]
 refine fun b hb=>?_
 simp (disch:=first|assumption|omega|(simp only [List.length_append,List.length_cons,List.length_nil];omega)) only [go_sem,←hF]
 refine wp_loop_by (fun (p:Nat) a σ'=>p<=s.length/\(∃ n:Nat,R=(sgT (s.drop p)).map (· + n)/\n<=p/\a 4 = .int .i64 n)/\(a 0 = .str s/\a 10 = .ptr b 0)/\σ'=σ.set b (some (.iter s p))) (fun p=>s.length-p) 0 (Dr.now ⟨Nat.zero_le _,⟨0,?_,Nat.le_refl _,?_⟩,?_,rfl⟩) ?_
 ·rw [<-hR,List.drop_zero];cases sgT s<;>rfl
 ·simp (disch:=first|assumption|omega|(simp only [List.length_append,List.length_cons,List.length_nil];omega)) only [go_sem]
 ·simp (disch:=first|assumption|omega|(simp only [List.length_append,List.length_cons,List.length_nil];omega)) only [go_sem]
 rintro p a σ1 ⟨hp,⟨n,hm,hn,h4⟩,hf,rfl⟩
 by_cases hlt:p<s.length
 ·have hlt':(p:Int)<s.length:=by omega
  have hne:s.drop p ≠ []:=by
   intro e
   have:=congrArg List.length e
   rw [List.length_drop] at this
   simp at this
   omega
  obtain ⟨⟨r,w⟩,hD⟩:∃ D,decodeL (s.drop p)=D:=⟨_,rfl⟩
  have hD2:Utf8.decode ⟨⟨s⟩⟩ p=(r,w):=by rw [<-hD];exact (decodeL_drop ⟨⟨s⟩⟩ p).symm
  have hw:=decodeL_width (s.drop p)
  have hwle:=decodeL_le (s.drop p) hne
  have hrb:=decodeL_rune (s.drop p)
  rw [List.length_drop] at hwle
  rw [hD] at hw hwle hrb
  dsimp only at hw hwle hrb
  by_cases hr:r=65533
  ·have hr':(r:Int)=65533:=by omega
   have hdc:=dec_ok (h.set hb (r:=some (.iter s (p+w)))) hne
   rw [hD] at hdc
   by_cases hw1:w=1
   ·have hbad:=sgT_bad hne (by rw [hD,hr,hw1])
    rw [hbad] at hm
    simp only [Option.map_none] at hm
    subst hm
    subst hw1
    have e1:((1:Nat):Int)=1:=rfl
    rw [e1] at hdc
    simp (disch:=first|assumption|omega|(simp only [List.length_append,List.length_cons,List.length_nil];omega)) only [go_sem,hf,h4,←hF]
    refine nxt_more hlt ?_
    rw [hD2]
    simp (disch:=first|assumption|omega|(simp only [List.length_append,List.length_cons,List.length_nil];omega)) only [go_sem,hf,h4,hlt,hlt',hr',List.take_length,←hF]
    refine hdc.mono ?_
    rintro v σ' ⟨rfl,rfl⟩
    simp (disch:=first|assumption|omega|(simp only [List.length_append,List.length_cons,List.length_nil];omega)) only [go_sem,hf,ASt.set_set]
    exact retC_by (by repeat' (first|exact Drop.refl _|with_reducible refine Drop.off ?_ (by assumption))) (.refl _) ⟨rfl,rfl⟩
   ·have hw1':¬ (w:Int)=1:=by omega
    have hgo:=sgT_step hne (by rw [hD];intro h;injection h with _ h;exact hw1 h)
    rw [hD] at hgo
    dsimp only at hgo
    rw [hgo,List.drop_drop,Option.map_map] at hm
    simp (disch:=first|assumption|omega|(simp only [List.length_append,List.length_cons,List.length_nil];omega)) only [go_sem,hf,h4,←hF]
    refine nxt_more hlt ?_
    rw [hD2]
    simp (disch:=first|assumption|omega|(simp only [List.length_append,List.length_cons,List.length_nil];omega)) only [go_sem,hf,h4,hlt,hlt',hr',List.take_length,←hF]
    refine hdc.mono ?_
    rintro v σ' ⟨rfl,rfl⟩
    simp (disch:=first|assumption|omega|(simp only [List.length_append,List.length_cons,List.length_nil];omega)) only [go_sem,hf,h4,hw1',ASt.set_set]
    refine ⟨p+w,by dsimp only;omega,Dr.now ⟨by omega,⟨n+1,?_,by omega,?_⟩,?_,rfl⟩⟩
    ·rw [hm]
     congr 1
     funext x
     simp only [Function.comp]
     omega
    ·simp (disch:=first|assumption|omega|(simp only [List.length_append,List.length_cons,List.length_nil];omega)) only [go_sem,hf,h4]
    ·simp (disch:=first|assumption|omega|(simp only [List.length_append,List.length_cons,List.length_nil];omega)) only [go_sem,hf,h4]
  ·have hr':¬ (r:Int)=65533:=by omega
   have hgo:=sgT_step hne (by rw [hD];intro h;injection h with h _;exact hr h)
   rw [hD] at hgo
   dsimp only at hgo
   rw [hgo,List.drop_drop,Option.map_map] at hm
   simp (disch:=first|assumption|omega|(simp only [List.length_append,List.length_cons,List.length_nil];omega)) only [go_sem,hf,h4,←hF]
   refine nxt_more hlt ?_
   rw [hD2]
   simp (disch:=first|assumption|omega|(simp only [List.length_append,List.length_cons,List.length_nil];omega)) only [go_sem,hf,h4,hlt,hlt',hr',ASt.set_set,←hF]
   refine ⟨p+w,by dsimp only;omega,Dr.now ⟨by omega,⟨n+1,?_,by omega,?_⟩,?_,rfl⟩⟩
   ·rw [hm]
    congr 1
    funext x
    simp only [Function.comp]
    omega
   ·simp (disch:=first|assumption|omega|(simp only [List.length_append,List.length_cons,List.length_nil];omega)) only [go_sem,hf,h4]
   ·simp (disch:=first|assumption|omega|(simp only [List.length_append,List.length_cons,List.length_nil];omega)) only [go_sem,hf,h4]
 ·have hlt':¬ (p:Int)<s.length:=by omega
  rw [List.drop_eq_nil_of_le (by omega),sgT_nil] at hm
  simp only [Option.map_some,Nat.zero_add] at hm
  subst hm
  simp (disch:=first|assumption|omega|(simp only [List.length_append,List.length_cons,List.length_nil];omega)) only [go_sem,hf,h4,←hF]
  refine nxt_over (by omega) ?_
  simp (disch:=first|assumption|omega|(simp only [List.length_append,List.length_cons,List.length_nil];omega)) only [go_sem,hf,h4,←hF]
  rw [hF]
  simp (disch:=first|assumption|omega|(simp only [List.length_append,List.length_cons,List.length_nil];omega)) only [go_sem,hf,h4]
  exact retC_by (by repeat' (first|exact Drop.refl _|with_reducible refine Drop.off ?_ (by assumption))) (.refl _) ⟨rfl,rfl⟩
theorem errors_ok:Pure Tryz.prog 45 [] (.sl .shr [.str [35,68,73,86,47,48,33],.str [35,78,85,77,33],.str [35,86,65,76,85,69,33],.str [35,82,69,70,33],.str [35,78,47,65],.str [35,78,65,77,69,63],.str [35,67,89,67,76,69,33]]):=by
 intro σ
 refine a45 (by simp) ?_
 simp (disch:=first|assumption|omega|(simp only [List.length_append,List.length_cons,List.length_nil];omega)) only [go_sem]
 exact retC_by (by repeat' (first|exact Drop.refl _|with_reducible refine Drop.off ?_ (by assumption))) (.sl _ _) ⟨rfl,rfl⟩
structure Pl where
 kind:Int
 n:Int
 s:List UInt8
def plAV (p:Pl):AV := .agg [.int .i64 p.kind,.int .i64 p.n,.str p.s]
def ofP (p:Pl):PV:=
 if p.kind=1 then (if p.n.natAbs<=999999999999999999 then .num p.n else .blank)
 else if p.kind=2 then (if (sgT p.s).isSome=true/\p.s.length<=2000 then .text p.s else .blank)
 else if p.kind=3 then .bool (decide (p.n=1))
 else if p.kind=4 then (if 1<=p.n/\p.n<=7 then .fail p.n else .blank)
 else .blank
theorem ofP_small (p:Pl):(ofP p).small:=by
 unfold ofP
 repeat' split
 all_goals first|trivial|(rename_i h;show p.s.length<=100000;omega)
set_option maxHeartbeats 1000000 in
theorem of_ok {σ:ASt} (h:U8 σ) (p:Pl) (hs:p.s.length<=4611686018427387904):ACalls Tryz.prog 20 [plAV p] σ fun v σ'=>v=(ofP p).av/\σ'=σ:=by
 obtain ⟨k,n,s⟩:=p
 dsimp only at hs
 unfold plAV ofP
 dsimp only
 refine a20 (by simp) ?_
 simp (disch:=first|assumption|omega|(simp only [List.length_append,List.length_cons,List.length_nil];omega)) only [go_sem]
 refine boxC_by rfl fun b hb=>?_
 have hE:=errors_ok
 by_cases k1:k=1
 ·rw [if_pos k1]
  simp (disch:=first|assumption|omega|(simp only [List.length_append,List.length_cons,List.length_nil];omega)) only [go_sem,k1]
  refine (dgood_ok n).use ?_
  by_cases hg:n.natAbs<=999999999999999999
  ·rw [if_pos hg]
   simp only [PV.av]
   simp (disch:=first|assumption|omega|(simp only [List.length_append,List.length_cons,List.length_nil];omega)) only [go_sem,hg]
   exact retC_by (Drop.set hb) (.refl _) ⟨rfl,rfl⟩
  ·rw [if_neg hg]
   simp only [PV.av]
   simp (disch:=first|assumption|omega|(simp only [List.length_append,List.length_cons,List.length_nil];omega)) only [go_sem,hg]
   exact retC_by (Drop.set hb) (.refl _) ⟨rfl,rfl⟩
 rw [if_neg k1]
 by_cases k2:k=2
 ·rw [if_pos k2]
  have hS2:=signs_ok (h.set hb (r:=some (.obj [.int .i64 2,.int .i64 n,.str s]))) s hs
  simp (disch:=first|assumption|omega|(simp only [List.length_append,List.length_cons,List.length_nil];omega)) only [go_sem,k1,k2]
  refine hS2.mono ?_
  rintro v σ' ⟨rfl,rfl⟩
  unfold sgAV
  cases sgT s with
  | none=>
    rw [if_neg (by simp)]
    simp only [PV.av]
    simp (disch:=first|assumption|omega|(simp only [List.length_append,List.length_cons,List.length_nil];omega)) only [go_sem]
    exact retC_by (Drop.set hb) (.refl _) ⟨rfl,rfl⟩
  | some m=>
    by_cases hl:s.length<=2000
    ·have hl':(s.length:Int)<=2000:=by omega
     rw [if_pos ⟨rfl,hl⟩]
     simp only [PV.av]
     simp (disch:=first|assumption|omega|(simp only [List.length_append,List.length_cons,List.length_nil];omega)) only [go_sem,hl']
     exact retC_by (Drop.set hb) (.refl _) ⟨rfl,rfl⟩
    ·have hl':¬ (s.length:Int)<=2000:=by omega
     rw [if_neg (fun h=>hl h.2)]
     simp only [PV.av]
     simp (disch:=first|assumption|omega|(simp only [List.length_append,List.length_cons,List.length_nil];omega)) only [go_sem,hl']
     exact retC_by (Drop.set hb) (.refl _) ⟨rfl,rfl⟩
 rw [if_neg k2]
 by_cases k3:k=3
 ·rw [if_pos k3]
  simp only [PV.av]
  simp (disch:=first|assumption|omega|(simp only [List.length_append,List.length_cons,List.length_nil];omega)) only [go_sem,k1,k2,k3]
  exact retC_by (Drop.set hb) (.refl _) ⟨rfl,rfl⟩
 rw [if_neg k3]
 by_cases k4:k=4
 ·rw [if_pos k4]
  by_cases g1:1<=n
  ·simp (disch:=first|assumption|omega|(simp only [List.length_append,List.length_cons,List.length_nil];omega)) only [go_sem,k1,k2,k3,k4,g1]
   refine hE.use ?_
   by_cases g2:n<=7
   ·rw [if_pos g2]
    simp only [PV.av]
    simp (disch:=first|assumption|omega|(simp only [List.length_append,List.length_cons,List.length_nil];omega)) only [go_sem,g2]
    exact retC_by (Drop.set hb) (.refl _) ⟨rfl,rfl⟩
   ·rw [if_neg g2]
    simp only [PV.av]
    simp (disch:=first|assumption|omega|(simp only [List.length_append,List.length_cons,List.length_nil];omega)) only [go_sem,g2]
    exact retC_by (Drop.set hb) (.refl _) ⟨rfl,rfl⟩
  ·rw [if_neg (fun h=>g1 h.1)]
   simp only [PV.av]
   simp (disch:=first|assumption|omega|(simp only [List.length_append,List.length_cons,List.length_nil];omega)) only [go_sem,k1,k2,k3,k4,g1]
   exact retC_by (Drop.set hb) (.refl _) ⟨rfl,rfl⟩
 ·rw [if_neg k4]
  simp only [PV.av]
  simp (disch:=first|assumption|omega|(simp only [List.length_append,List.length_cons,List.length_nil];omega)) only [go_sem,k1,k2,k3,k4]
  exact retC_by (Drop.set hb) (.refl _) ⟨rfl,rfl⟩
end Go.A
namespace Go.A
open Go.Proofs
/-! 58: tabular/value.Great -/
def c58_15:ACode := .seq (.ops [ oq 11 (.bin .lss (.t 10) (.t 9))]) (.seq (.cond (.t 11) .skip (.exit 0)) (.seq (.block 1 (.seq (.ops [ oq 12 (.mv (.t 10)),oq 13 (.ia 1 (.t 8) (.t 10)),oq 14 (.ld none (.t 13)),oq 4 (.mv (.t 12)),oq 5 (.mv (.t 14))]) (.seq (.ops [ oq 15 (.mv (.t 5)),oq 16 (.bin .geq (.t 15) (.v (.int .u8 97))),oq 17 (.mv (.t 16)),⟨some 18,some (17,true),.q (.mv (.t 5)),[]⟩,⟨some 19,some (17,true),.q (.bin .leq (.t 18) (.v (.int .u8 122))),[]⟩,oq 20 (.pick (.t 17) (.t 19) (.v (.bool false)))]) (.cond (.t 20) (.ops [ oq 21 (.mv (.t 3)),oq 22 (.mv (.t 4)),oq 23 (.mv (.t 5)),oq 24 (.bin .sub (.t 23) (.v (.int .u8 32))),oq 25 (.ia 1 (.t 21) (.t 22)),oz (.store 1 (.t 25) (.t 24))]) .skip)))) (.ops [ oq 26 (.bin .add (.t 10) (.v (.int .i64 1))),oq 10 (.mv (.t 26))])))
def c58_23:ACode := .seq (.ops [ oq 2 (.mv (.v (.str [])))]) (.seq (.ops [ oq 6 (.mv (.t 0)),oe 7 (.s2b (.t 6)),oq 3 (.mv (.t 7))]) (.seq (.seq (.ops [ oq 8 (.mv (.t 3)),oq 9 (.len (.t 8)),oq 10 (.mv (.v (.int .i64 0)))]) (.block 0 (.loop c58_15))) (.seq (.ops [ oq 27 (.mv (.t 3)),oq 28 (.b2s (.t 27)),oq 2 (.mv (.t 28))]) .ret)))
@[go_sem] def c58_15_wp:=wp_of c58_15.eq_1
@[go_sem] def c58_23_wp:=wp_of c58_23.eq_1
def c58:AFn:=⟨29,[.t 2],c58_23⟩
theorem c58_ok:compF Tryz.prog Tryz.f58=some c58:=by kernel_rfl
theorem a58 {args:List AV} {σ:ASt} {R:AV->ASt->Prop} (hl:args.length<=29) (h:c58_23.wp Tryz.prog (RetQ [.t 2] R) (init args) σ):ACalls Tryz.prog 58 args σ R:=acalls_of Tryz.func58 c58_ok hl h
end Go.A
namespace Go.A
open Go.Proofs Go.Lib
theorem vgreat_ok (l:List UInt8) (hl:l.length<4611686018427387904):Pure Tryz.prog 58 [.str l] (.str (greatP l)):=by
 intro σ
 refine a58 (by simp) ?_
 simp (disch:=first|assumption|omega|(simp only [List.length_append,List.length_cons,List.length_nil];omega)) only [go_sem]
 refine s2b_own fun b cp hb hcp=>?_
 simp (disch:=first|assumption|omega|(simp only [List.length_append,List.length_cons,List.length_nil];omega)) only [go_sem]
 refine wp_loop_on (fun (i:Nat) a σ'=>i<=l.length/\(a 3 = .msl b 0 l.length cp/\a 8 = .msl b 0 l.length cp/\a 9 = .int .i64 l.length/\a 10 = .int .i64 i)/\σ'=σ.set b (some (.obj (bytesAV (greatP (l.take i)++l.drop i)))))
  (fun i=>l.length-i) 0 ⟨Nat.zero_le _,?_,by simp [greatP]⟩ ?_
 ·simp (disch:=first|assumption|omega|(simp only [List.length_append,List.length_cons,List.length_nil];omega)) only [go_sem]
 rintro i a σ1 ⟨hi,hf,rfl⟩
 obtain ⟨m,hm⟩:∃ m,greatP (l.take i)++l.drop i=m:=⟨_,rfl⟩
 have hml:m.length=l.length:=by rw [<-hm];simp [greatP];omega
 have hgl:(greatP (l.take i)).length=i:=by simp [greatP];omega
 rw [hm]
 by_cases hlt:i<l.length
 ·have hidx : m[i]? = some (l[i]'hlt) := by rw [← hm, List.getElem?_append_right (by omega), hgl]; simp
  obtain ⟨c, hc⟩ : ∃ c, l[i]'hlt = c := ⟨_, rfl⟩
  rw [hc] at hidx
  have hcb:=u8_lt c
  have hi2:(i:Int)<l.length:=by omega
  have hle:i+1<=m.length:=by omega
  have hnext:greatP (l.take (i+1))++l.drop (i+1)=m.set i (greatC c):=by
   rw [<-hm,List.take_succ_eq_append_getElem hlt,hc,List.set_append_right _ _ (by omega),hgl,Nat.sub_self]
   simp only [greatP,List.map_append,List.map_cons,List.map_nil,List.append_assoc,List.singleton_append]
   rw [List.drop_eq_getElem_cons hlt]
   rfl
  by_cases hg:97<=c.toNat/\c.toNat<=122
  ·have g1:(97:Int)<=c.toNat:=by omega
   have g2:(c.toNat:Int)<=122:=by omega
   have hgc:greatC c=UInt8.ofNat (c.toNat-32):=by unfold greatC;rw [if_pos hg]
   have hw:=set_bytes (l:=m) (i:=i) (m:=(c.toNat:Int)-32) (by omega)
   have hw0:(c.toNat:Int)-32=((UInt8.ofNat (c.toNat-32)).toNat:Int):=by rw [u8_nat (by omega)];omega
   rw [hw0,bytes_set] at hw
   simp (disch:=first|assumption|omega|(simp only [List.length_append,List.length_cons,List.length_nil];omega)) only [go_sem,hf,hi2,hidx,g1,g2,hle,hw0,hw]
   refine ⟨i+1,by omega,by omega,?_,by rw [hnext,hgc]⟩
   simp (disch:=first|assumption|omega|(simp only [List.length_append,List.length_cons,List.length_nil];omega)) only [go_sem,hf]
  ·have hgc:greatC c=c:=by unfold greatC;rw [if_neg hg]
   have hms:m.set i c=m:=by
    apply List.ext_getElem?
    intro j
    rw [List.getElem?_set]
    split
    ·rename_i h;subst h;rw [hidx];split<;>first|rfl|omega
    ·rfl
   by_cases g1:(97:Int)<=c.toNat
   ·have g2:¬ (c.toNat:Int)<=122:=by omega
    simp (disch:=first|assumption|omega|(simp only [List.length_append,List.length_cons,List.length_nil];omega)) only [go_sem,hf,hi2,hidx,g1,g2]
    refine ⟨i+1,by omega,by omega,?_,by rw [hnext,hgc,hms]⟩
    simp (disch:=first|assumption|omega|(simp only [List.length_append,List.length_cons,List.length_nil];omega)) only [go_sem,hf]
   ·simp (disch:=first|assumption|omega|(simp only [List.length_append,List.length_cons,List.length_nil];omega)) only [go_sem,hf,hi2,hidx,g1]
    refine ⟨i+1,by omega,by omega,?_,by rw [hnext,hgc,hms]⟩
    simp (disch:=first|assumption|omega|(simp only [List.length_append,List.length_cons,List.length_nil];omega)) only [go_sem,hf]
 ·have e:greatP (l.take i)++l.drop i=greatP l:=by rw [List.take_of_length_le (by omega),List.drop_of_length_le (by omega),List.append_nil]
  have hi2:¬ (i:Int)<l.length:=by omega
  rw [e] at hm
  subst hm
  have hb2:bytesOf ((bytesAV (greatP l)).take l.length)=some (greatP l):=by
   rw [List.take_of_length_le (by simp [bytesAV,greatP])]
   exact bytesOf_bytesAV _
  simp (disch:=first|assumption|omega|(simp only [List.length_append,List.length_cons,List.length_nil];omega)) only [go_sem,hf,hi2,hml,hb2,Nat.le_refl]
  exact retC_by (Drop.set hb) (.refl _) ⟨rfl,rfl⟩
end Go.A
end
