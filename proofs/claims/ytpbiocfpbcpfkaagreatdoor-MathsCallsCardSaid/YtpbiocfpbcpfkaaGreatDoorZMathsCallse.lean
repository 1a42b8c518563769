/- Part 5 of what MathsCalls leans on: Shelf Wz CodeH Hc Hd Hf Hg CodeHv. -/
import Derived.Shelf.Strings.Trim
import Derived.Shelf.Small.Utf8
import Derived.Shelf.Small.Bits
import Derived.Shelf.Small.Strs
import Derived.Shelf.Small.Wraps
import Derived.Shelf.Strconv.Itoa0
import Derived.Shelf.Strings.Search1
import Derived.Shelf.Strings.Search2
import Derived.Shelf.Strings.Cut
import Derived.Shelf.LaysM
import Derived.Shelf.Strings.Shaped
import Derived.Shelf.Strings.Prefix
import Derived.Shelf.Unicode.Decode
import Derived.Shelf.Strings.Runes
import Derived.Shelf.Strings.AsciiSet
import Derived.Shelf.Bits.Mul64
import Derived.Shelf.Unicode.DecodeSlow
import Derived.Shelf.Unicode.DecodeAny
import Derived.Shelf.Unicode.DecodeLast
import Derived.Test.YtpbiocfpbcpfkaaGreatDoorProg
import Derived.Lib.ItoaMem
import Derived.KernelRfl
import Derived.Lib.AppendIntMem
import Derived.BigCall
import Derived.BigGuard
import Derived.Test.YtpbiocfpbcpfkaaGreatDoorZMathsCallsd
set_option linter.defProp false
set_option linter.unusedSimpArgs false
set_option linter.unusedVariables false
set_option maxRecDepth 100000
namespace Go.Proofs
open Go.Shelf
def Tryz.lays160_ren:Go.Shelf.Ren:=⟨fun|160=>97|232=>103|231=>102|227=>104|234=>106|233=>105|236=>108|235=>107|228=>112|271=>114|151=>113|197=>92|120=>121|152=>120|260=>99|137=>124|119=>125|224=>118|225=>117|217=>116|266=>122|n=>n,fun|9=>9|4=>4|3=>3|5=>5|117=>132|116=>131|0=>0|124=>135|21=>21|105=>120|46=>102|119=>139|139=>142|138=>141|n=>n,fun|3=>3|4=>4|n=>n⟩
theorem Tryz.lays160:Go.Proofs.Lays.n160 Tryz.prog Tryz.lays160_ren := {
 mixed:=by kernel_rfl
 f119:=Tryz.func125.trans (congrArg some (by kernel_rfl))
 f120:=Tryz.func121.trans (congrArg some (by kernel_rfl))
 f137:=Tryz.func124.trans (congrArg some (by kernel_rfl))
 f151:=Tryz.func113.trans (congrArg some (by kernel_rfl))
 f152:=Tryz.func120.trans (congrArg some (by kernel_rfl))
 f160:=Tryz.func97.trans (congrArg some (by kernel_rfl))
 f197:=Tryz.func92.trans (congrArg some (by kernel_rfl))
 f217:=Tryz.func116.trans (congrArg some (by kernel_rfl))
 f224:=Tryz.func118.trans (congrArg some (by kernel_rfl))
 f225:=Tryz.func117.trans (congrArg some (by kernel_rfl))
 f227:=Tryz.func104.trans (congrArg some (by kernel_rfl))
 f228:=Tryz.func112.trans (congrArg some (by kernel_rfl))
 f231:=Tryz.func102.trans (congrArg some (by kernel_rfl))
 f232:=Tryz.func103.trans (congrArg some (by kernel_rfl))
 f233:=Tryz.func105.trans (congrArg some (by kernel_rfl))
 f234:=Tryz.func106.trans (congrArg some (by kernel_rfl))
 f235:=Tryz.func107.trans (congrArg some (by kernel_rfl))
 f236:=Tryz.func108.trans (congrArg some (by kernel_rfl))
 f260:=Tryz.func99.trans (congrArg some (by kernel_rfl))
 f266:=Tryz.func122.trans (congrArg some (by kernel_rfl))
 f271:=Tryz.func114.trans (congrArg some (by kernel_rfl))
 t0:=Tryz.underlying0
 a0:=Tryz.isAgg0
 z0:=Tryz.sizeOf0
 v0:=Tryz.zeroValue0
 t3:=Tryz.underlying3
 a3:=Tryz.isAgg3
 z3:=Tryz.sizeOf3
 v3:=Tryz.zeroValue3
 t4:=Tryz.underlying4
 a4:=Tryz.isAgg4
 z4:=Tryz.sizeOf4
 v4:=Tryz.zeroValue4
 t5:=Tryz.underlying5
 a5:=Tryz.isAgg5
 z5:=Tryz.sizeOf5
 v5:=Tryz.zeroValue5
 t9:=Tryz.underlying9
 a9:=Tryz.isAgg9
 z9:=Tryz.sizeOf9
 v9:=Tryz.zeroValue9
 t21:=Tryz.underlying21
 a21:=Tryz.isAgg21
 z21:=Tryz.sizeOf21
 v21:=Tryz.zeroValue21
 t46:=Tryz.underlying102
 a46:=Tryz.isAgg102
 z46:=Tryz.sizeOf102
 v46:=Tryz.zeroValue102
 t105:=Tryz.underlying120
 a105:=Tryz.isAgg120
 z105:=Tryz.sizeOf120
 v105:=Tryz.zeroValue120
 t116:=Tryz.underlying131
 a116:=Tryz.isAgg131
 z116:=Tryz.sizeOf131
 t117:=Tryz.underlying132
 a117:=Tryz.isAgg132
 z117:=Tryz.sizeOf132
 v117:=Tryz.zeroValue132
 t119:=Tryz.underlying139
 a119:=Tryz.isAgg139
 z119:=Tryz.sizeOf139
 t124:=Tryz.underlying135
 a124:=Tryz.isAgg135
 z124:=Tryz.sizeOf135
 v124:=Tryz.zeroValue135
 t138:=Tryz.underlying141
 a138:=Tryz.isAgg141
 z138:=Tryz.sizeOf141
 v138:=Tryz.zeroValue141
 t139:=Tryz.underlying142
 a139:=Tryz.isAgg142
 z139:=Tryz.sizeOf142
 v139:=Tryz.zeroValue142
 g3:=by kernel_rfl
 g4:=by kernel_rfl }
open Go.RowKit in
theorem Tryz.strings_Trim_one (s:ByteArray) (c:UInt8) (hc:c.toNat<128) (w:World) (hs:s.size<=9223372036854775807) :
  Calls Tryz.prog 97 #[.string s,.string ⟨#[c]⟩] w fun e w'=>e = .returned (.string ⟨(Lib.trimB s.data.toList c).toArray⟩)/\(w'=w\/w'=w.drew):=Any.strings_Trim_one Tryz.lays160 s c hc w hs
def Tryz.lays103_ren:Go.Shelf.Ren:=⟨fun|103=>95|210=>100|206=>110|n=>n,fun|9=>9|4=>4|24=>124|3=>3|n=>n,fun|n=>n⟩
theorem Tryz.lays103:Go.Proofs.Lays.n103 Tryz.prog Tryz.lays103_ren := {
 mixed:=by kernel_rfl
 f103:=Tryz.func95.trans (congrArg some (by kernel_rfl))
 f206:=Tryz.func110.trans (congrArg some (by kernel_rfl))
 f210:=Tryz.func100.trans (congrArg some (by kernel_rfl))
 t3:=Tryz.underlying3
 a3:=Tryz.isAgg3
 z3:=Tryz.sizeOf3
 v3:=Tryz.zeroValue3
 t4:=Tryz.underlying4
 a4:=Tryz.isAgg4
 z4:=Tryz.sizeOf4
 v4:=Tryz.zeroValue4
 t9:=Tryz.underlying9
 a9:=Tryz.isAgg9
 z9:=Tryz.sizeOf9
 v9:=Tryz.zeroValue9
 t24:=Tryz.underlying124
 a24:=Tryz.isAgg124
 z24:=Tryz.sizeOf124
 v24:=Tryz.zeroValue124 }
open Go.RowKit in
theorem Tryz.strings_CutPrefix (s p:ByteArray) (w:World) :
  Calls Tryz.prog 95 #[.string s,.string p] w fun e w'=>e = .returned (.tuple #[.string ⟨(Lib.trimPrefix s.data.toList p.data.toList).toArray⟩,.bool (Lib.hasPrefix s.data.toList p.data.toList)])/\w'=w:=Any.strings_CutPrefix Tryz.lays103 s p w
def Tryz.lays129_ren:Go.Shelf.Ren:=⟨fun|129=>115|n=>n,fun|53=>75|3=>3|4=>4|46=>102|5=>5|9=>9|n=>n,fun|n=>n⟩
theorem Tryz.lays129:Go.Proofs.Lays.n129 Tryz.prog Tryz.lays129_ren := {
 mixed:=by kernel_rfl
 f129:=Tryz.func115.trans (congrArg some (by kernel_rfl))
 t3:=Tryz.underlying3
 a3:=Tryz.isAgg3
 z3:=Tryz.sizeOf3
 v3:=Tryz.zeroValue3
 t4:=Tryz.underlying4
 a4:=Tryz.isAgg4
 z4:=Tryz.sizeOf4
 v4:=Tryz.zeroValue4
 t5:=Tryz.underlying5
 a5:=Tryz.isAgg5
 z5:=Tryz.sizeOf5
 v5:=Tryz.zeroValue5
 t9:=Tryz.underlying9
 a9:=Tryz.isAgg9
 z9:=Tryz.sizeOf9
 v9:=Tryz.zeroValue9
 t46:=Tryz.underlying102
 a46:=Tryz.isAgg102
 z46:=Tryz.sizeOf102
 v46:=Tryz.zeroValue102
 t53:=Tryz.underlying75
 a53:=Tryz.isAgg75
 z53:=Tryz.sizeOf75
 v53:=Tryz.zeroValue75 }
theorem Tryz.bits_Len64 (x:Int) (w:World) (h0:0<=x) (h1:x<=18446744073709551615) :
  Calls Tryz.prog 115 #[.int .u64 x] w fun e w'=>e = .returned (.int .i64 (Lib.bitLen x.toNat))/\w'=w:=Any.bits_Len64 Tryz.lays129 x w h0 h1
def Tryz.lays219_ren:Go.Shelf.Ren:=⟨fun|219=>111|217=>116|225=>117|224=>118|267=>119|266=>122|314=>123|n=>n,fun|9=>9|3=>3|4=>4|5=>5|46=>102|146=>150|51=>149|n=>n,fun|1=>5|n=>n⟩
theorem Tryz.lays219:Go.Proofs.Lays.n219 Tryz.prog Tryz.lays219_ren := {
 mixed:=by kernel_rfl
 f217:=Tryz.func116.trans (congrArg some (by kernel_rfl))
 f219:=Tryz.func111.trans (congrArg some (by kernel_rfl))
 f224:=Tryz.func118.trans (congrArg some (by kernel_rfl))
 f225:=Tryz.func117.trans (congrArg some (by kernel_rfl))
 f266:=Tryz.func122.trans (congrArg some (by kernel_rfl))
 f267:=Tryz.func119.trans (congrArg some (by kernel_rfl))
 f314:=Tryz.func123.trans (congrArg some (by kernel_rfl))
 t3:=Tryz.underlying3
 a3:=Tryz.isAgg3
 z3:=Tryz.sizeOf3
 v3:=Tryz.zeroValue3
 t4:=Tryz.underlying4
 a4:=Tryz.isAgg4
 z4:=Tryz.sizeOf4
 v4:=Tryz.zeroValue4
 t5:=Tryz.underlying5
 a5:=Tryz.isAgg5
 z5:=Tryz.sizeOf5
 v5:=Tryz.zeroValue5
 t9:=Tryz.underlying9
 a9:=Tryz.isAgg9
 z9:=Tryz.sizeOf9
 v9:=Tryz.zeroValue9
 t46:=Tryz.underlying102
 a46:=Tryz.isAgg102
 z46:=Tryz.sizeOf102
 v46:=Tryz.zeroValue102
 t51:=Tryz.underlying149
 a51:=Tryz.isAgg149
 z51:=Tryz.sizeOf149
 v51:=Tryz.zeroValue149
 t146:=Tryz.underlying150
 a146:=Tryz.isAgg150
 z146:=Tryz.sizeOf150
 v146:=Tryz.zeroValue150
 g1:=by kernel_rfl }
open Go.RowKit Go.Lib in
theorem Tryz.stringslite_Index_one (s:ByteArray) (c:UInt8) (w:World) :
  Calls Tryz.prog 111 #[.string s,.string ⟨#[c]⟩] w fun e w'=>e = .returned (.int .i64 (Lib.indexByte s.data.toList c))/\w'=w:=Any.stringslite_Index_one Tryz.lays219 s c w
def Tryz.lays197_ren:Go.Shelf.Ren:=⟨fun|197=>92|260=>99|n=>n,fun|9=>9|21=>21|3=>3|4=>4|5=>5|105=>120|119=>139|0=>0|46=>102|139=>142|138=>141|n=>n,fun|3=>3|4=>4|n=>n⟩
theorem Tryz.lays197:Go.Proofs.Lays.n197 Tryz.prog Tryz.lays197_ren := {
 mixed:=by kernel_rfl
 f197:=Tryz.func92.trans (congrArg some (by kernel_rfl))
 f260:=Tryz.func99.trans (congrArg some (by kernel_rfl))
 t0:=Tryz.underlying0
 a0:=Tryz.isAgg0
 z0:=Tryz.sizeOf0
 v0:=Tryz.zeroValue0
 t3:=Tryz.underlying3
 a3:=Tryz.isAgg3
 z3:=Tryz.sizeOf3
 v3:=Tryz.zeroValue3
 t4:=Tryz.underlying4
 a4:=Tryz.isAgg4
 z4:=Tryz.sizeOf4
 v4:=Tryz.zeroValue4
 t5:=Tryz.underlying5
 a5:=Tryz.isAgg5
 z5:=Tryz.sizeOf5
 v5:=Tryz.zeroValue5
 t9:=Tryz.underlying9
 a9:=Tryz.isAgg9
 z9:=Tryz.sizeOf9
 v9:=Tryz.zeroValue9
 t21:=Tryz.underlying21
 a21:=Tryz.isAgg21
 z21:=Tryz.sizeOf21
 v21:=Tryz.zeroValue21
 t46:=Tryz.underlying102
 a46:=Tryz.isAgg102
 z46:=Tryz.sizeOf102
 v46:=Tryz.zeroValue102
 t105:=Tryz.underlying120
 a105:=Tryz.isAgg120
 z105:=Tryz.sizeOf120
 v105:=Tryz.zeroValue120
 t119:=Tryz.underlying139
 a119:=Tryz.isAgg139
 z119:=Tryz.sizeOf139
 t138:=Tryz.underlying141
 a138:=Tryz.isAgg141
 z138:=Tryz.sizeOf141
 v138:=Tryz.zeroValue141
 t139:=Tryz.underlying142
 a139:=Tryz.isAgg142
 z139:=Tryz.sizeOf142
 v139:=Tryz.zeroValue142
 g3:=by kernel_rfl
 g4:=by kernel_rfl }
def Tryz.lays264_ren:Go.Shelf.Ren:=⟨fun|264=>69|n=>n,fun|53=>75|46=>102|n=>n,fun|n=>n⟩
theorem Tryz.lays264:Go.Proofs.Lays.n264 Tryz.prog Tryz.lays264_ren := {
 mixed:=by kernel_rfl
 f264:=Tryz.func69.trans (congrArg some (by kernel_rfl))
 t46:=Tryz.underlying102
 a46:=Tryz.isAgg102
 z46:=Tryz.sizeOf102
 v46:=Tryz.zeroValue102
 t53:=Tryz.underlying75
 a53:=Tryz.isAgg75
 z53:=Tryz.sizeOf75
 v53:=Tryz.zeroValue75 }
open Go.RowKit Go.Lib in
theorem Tryz.bits_Mul64 (x y:Nat) (hx:x<18446744073709551616) (hy:y<18446744073709551616) (w:World) :
  Calls Tryz.prog 69 #[.int .u64 x,.int .u64 y] w fun e w'=>e = .returned (.tuple #[.int .u64 ((x*y / 18446744073709551616:Nat):Int),.int .u64 ((x*y % 18446744073709551616:Nat):Int)])/\w'=w:=Any.bits_Mul64 Tryz.lays264 x y hx hy w
def Tryz.lays260_ren:Go.Shelf.Ren:=⟨fun|260=>99|n=>n,fun|9=>9|21=>21|3=>3|4=>4|5=>5|119=>139|0=>0|46=>102|139=>142|138=>141|n=>n,fun|3=>3|4=>4|n=>n⟩
theorem Tryz.lays260:Go.Proofs.Lays.n260 Tryz.prog Tryz.lays260_ren := {
 mixed:=by kernel_rfl
 f260:=Tryz.func99.trans (congrArg some (by kernel_rfl))
 t0:=Tryz.underlying0
 a0:=Tryz.isAgg0
 z0:=Tryz.sizeOf0
 v0:=Tryz.zeroValue0
 t3:=Tryz.underlying3
 a3:=Tryz.isAgg3
 z3:=Tryz.sizeOf3
 v3:=Tryz.zeroValue3
 t4:=Tryz.underlying4
 a4:=Tryz.isAgg4
 z4:=Tryz.sizeOf4
 v4:=Tryz.zeroValue4
 t5:=Tryz.underlying5
 a5:=Tryz.isAgg5
 z5:=Tryz.sizeOf5
 v5:=Tryz.zeroValue5
 t9:=Tryz.underlying9
 a9:=Tryz.isAgg9
 z9:=Tryz.sizeOf9
 v9:=Tryz.zeroValue9
 t21:=Tryz.underlying21
 a21:=Tryz.isAgg21
 z21:=Tryz.sizeOf21
 v21:=Tryz.zeroValue21
 t46:=Tryz.underlying102
 a46:=Tryz.isAgg102
 z46:=Tryz.sizeOf102
 v46:=Tryz.zeroValue102
 t119:=Tryz.underlying139
 a119:=Tryz.isAgg139
 z119:=Tryz.sizeOf139
 t138:=Tryz.underlying141
 a138:=Tryz.isAgg141
 z138:=Tryz.sizeOf141
 v138:=Tryz.zeroValue141
 t139:=Tryz.underlying142
 a139:=Tryz.isAgg142
 z139:=Tryz.sizeOf142
 v139:=Tryz.zeroValue142
 g3:=by kernel_rfl
 g4:=by kernel_rfl }
open Go.RowKit Go.Lib in
theorem Tryz.utf8_DecodeRuneInString (s:ByteArray) (w:World) (hT:Lib.Utf8Tabs 3 4 w) :
  Calls Tryz.prog 92 #[.string s] w fun e w'=>e = .returned (.tuple #[.int .i32 (Lib.decodeGo s).1,.int .i64 (Lib.decodeGo s).2])/\Below w.heap.size w w':=Any.utf8_DecodeRuneInString Tryz.lays197 s w hT
end Go.Proofs
namespace Go.A
open Go.Proofs
section
variable {P:Program} {σ:ASt} {w:World}
theorem reps_ints {k:IntKind}:∀ {zs:List Int} {vs:List Value},Reps σ w (zs.map (AV.int k)) vs->vs=zs.map (Value.int k)
 | [],vs,h=>by cases h;rfl
 | z::zs,vs,h=>by
   cases h with
   | cons h1 h2=>
     cases h1
     rw [reps_ints h2]
     rfl
theorem ACalls.of_ext {f:FuncId} {args:List AV} {r:AV} {u:Value} (h:∀ w vs,Sim σ w->Reps σ w args vs->Calls P f ⟨vs⟩ w fun e w'=>e = .returned u/\Ext w w') (hr:∀ w,Rep σ w r u):ACalls P f args σ fun v σ'=>v=r/\σ'=σ:=
 fun w vs hs ha=>(h w vs hs ha).mono fun e w' ⟨he,hx⟩=>⟨u,r,σ,he,⟨rfl,rfl⟩,ext_le hx,hs.ext hx,hr w'⟩
end
theorem Ext.of_eq {w w':World} (h:w'=w):Ext w w':=h▸Ext.refl w
end Go.A
namespace Go.A
abbrev oq (d:Nat) (x:QOp):AItem:=⟨some d,none,.q x,[]⟩
abbrev oe (d:Nat) (x:EOp):AItem:=⟨some d,none,.e x,[]⟩
abbrev oz (x:EOp):AItem:=⟨none,none,.e x,[]⟩
@[go_sem] theorem run_oq {P:Program} {K:AFr->ASt->Prop} {a:AFr} {σ:ASt} {d:Nat} {q:QOp} {r:List AItem}:runI P (oq d q::r) K a σ=qC P (q.ev a σ) (some d) r K a σ:=run_q
@[go_sem] theorem run_oe {P:Program} {K:AFr->ASt->Prop} {a:AFr} {σ:ASt} {d:Nat} {e:EOp} {r:List AItem}:runI P (oe d e::r) K a σ=e.step P a σ (eK P (some d) [] r K a):=run_e
@[go_sem] theorem run_oz {P:Program} {K:AFr->ASt->Prop} {a:AFr} {σ:ASt} {e:EOp} {r:List AItem}:runI P (oz e::r) K a σ=e.step P a σ (eK P none [] r K a):=run_e
open Go.Proofs
/-! 4: tabular/tabularlaw01.Cut -/
def c4_9:ACode := .seq (.ops [ oq 4 (.mv (.v (.str [])))]) (.seq (.seq (.ops [ oq 5 (.mv (.t 0)),oq 6 (.lenS (.t 5)),oq 7 (.mv (.t 1)),oq 8 (.bin .gtr (.t 6) (.t 7))]) (.cond (.t 8) (.seq (.ops [ oq 9 (.mv (.t 0)),oq 10 (.mv (.t 1)),oq 11 (.slto (true,0) (.t 9) (.t 10)),oq 4 (.mv (.t 11))]) .ret) .skip)) (.seq (.ops [ oq 12 (.mv (.t 0)),oq 4 (.mv (.t 12))]) .ret))
@[go_sem] def c4_9_wp:=wp_of c4_9.eq_1
def c4:AFn:=⟨13,[.t 4],c4_9⟩
theorem c4_ok:compF Tryz.prog Tryz.f4=some c4:=by kernel_rfl
theorem a4 {args:List AV} {σ:ASt} {R:AV->ASt->Prop} (hl:args.length<=13) (h:c4_9.wp Tryz.prog (RetQ [.t 4] R) (init args) σ):ACalls Tryz.prog 4 args σ R:=acalls_of Tryz.func4 c4_ok hl h
/-! 18: tabular/deci.Abs -/
def c18_9:ACode := .seq (.ops [ oq 2 (.mv (.v (.int .i64 0)))]) (.seq (.seq (.ops [ oq 3 (.mv (.t 0)),oq 4 (.bin .lss (.t 3) (.v (.int .i64 0)))]) (.cond (.t 4) (.seq (.ops [ oq 5 (.mv (.t 0)),oq 6 (.un .neg (.t 5)),oq 2 (.mv (.t 6))]) .ret) .skip)) (.seq (.ops [ oq 7 (.mv (.t 0)),oq 2 (.mv (.t 7))]) .ret))
@[go_sem] def c18_9_wp:=wp_of c18_9.eq_1
def c18:AFn:=⟨8,[.t 2],c18_9⟩
theorem c18_ok:compF Tryz.prog Tryz.f18=some c18:=by kernel_rfl
theorem a18 {args:List AV} {σ:ASt} {R:AV->ASt->Prop} (hl:args.length<=8) (h:c18_9.wp Tryz.prog (RetQ [.t 2] R) (init args) σ):ACalls Tryz.prog 18 args σ R:=acalls_of Tryz.func18 c18_ok hl h
/-! 21: tabular/deci.Floor -/
def c21_11:ACode := .seq (.ops [ oq 4 (.mv (.v (.int .i64 0))),oq 5 (.mv (.v (.bool false)))]) (.seq (.seq (.ops [ oq 8 (.mv (.t 1)),oq 9 (.bin .leq (.t 8) (.v (.int .i64 0)))]) (.cond (.t 9) (.seq (.ops [ oq 4 (.mv (.v (.int .i64 0))),oq 5 (.mv (.v (.bool false)))]) .ret) .skip)) (.seq (.ops [ oq 11 (.mv (.t 0)),oq 12 (.mv (.t 1)),oe 13 (.call 29 [(.t 11),(.t 12)]),oq 10 (.mv (.t 13)),oq 14 (.ext 0 (.t 10)),oq 15 (.ext 1 (.t 10)),oq 6 (.mv (.t 14)),oq 7 (.mv (.t 15))]) (.seq (.ops [ oq 16 (.mv (.t 0)),oq 17 (.mv (.t 6)),oe 18 (.call 58 [(.t 16),(.t 17)]),oq 19 (.ext 0 (.t 18)),oq 20 (.ext 1 (.t 18)),oq 4 (.mv (.t 19)),oq 5 (.mv (.t 20))]) .ret)))
@[go_sem] def c21_11_wp:=wp_of c21_11.eq_1
def c21:AFn:=⟨21,[.t 4,.t 5],c21_11⟩
theorem c21_ok:compF Tryz.prog Tryz.f21=some c21:=by kernel_rfl
theorem a21 {args:List AV} {σ:ASt} {R:AV->ASt->Prop} (hl:args.length<=21) (h:c21_11.wp Tryz.prog (RetQ [.t 4,.t 5] R) (init args) σ):ACalls Tryz.prog 21 args σ R:=acalls_of Tryz.func21 c21_ok hl h
/-! 24: tabular/deci.Round -/
def c24_28:ACode := .seq (.ops [ oq 4 (.mv (.v (.int .i64 0))),oq 5 (.mv (.v (.bool false)))]) (.seq (.seq (.ops [ oq 10 (.mv (.t 1)),oq 11 (.bin .lss (.t 10) (.v (.int .i64 (-14))))]) (.cond (.t 11) (.seq (.ops [ oq 4 (.mv (.v (.int .i64 0))),oq 5 (.mv (.v (.bool true)))]) .ret) .skip)) (.seq (.ops [ oq 13 (.mv (.t 1)),oe 14 (.call 59 [(.t 13)]),oq 12 (.mv (.t 14)),oq 15 (.ext 0 (.t 12)),oq 16 (.ext 1 (.t 12)),oq 6 (.mv (.t 15)),oq 7 (.mv (.t 16))]) (.seq (.seq (.ops [ oq 17 (.mv (.t 7)),oq 18 (.un .not (.t 17))]) (.cond (.t 18) (.seq (.ops [ oq 19 (.mv (.t 0)),oq 4 (.mv (.t 19)),oq 5 (.mv (.v (.bool true)))]) .ret) .skip)) (.seq (.ops [ oq 20 (.mv (.t 0)),oe 21 (.call 61 [(.t 20)]),oq 8 (.mv (.t 21))]) (.seq (.ops [ oq 22 (.mv (.t 8)),oq 23 (.mv (.t 6)),oq 24 (.bin .rem (.t 22) (.t 23)),oq 9 (.mv (.t 24))]) (.seq (.ops [ oq 25 (.mv (.t 8)),oq 26 (.mv (.t 9)),oq 27 (.bin .sub (.t 25) (.t 26)),oq 8 (.mv (.t 27))]) (.seq (.seq (.ops [ oq 28 (.mv (.t 9)),oq 29 (.mv (.t 6)),oq 30 (.mv (.t 9)),oq 31 (.bin .sub (.t 29) (.t 30)),oq 32 (.bin .geq (.t 28) (.t 31))]) (.cond (.t 32) (.ops [ oq 33 (.mv (.t 8)),oq 34 (.mv (.t 6)),oq 35 (.bin .add (.t 33) (.t 34)),oq 8 (.mv (.t 35))]) .skip)) (.seq (.ops [ oq 36 (.mv (.t 0)),oq 37 (.bin .lss (.t 36) (.v (.int .i64 0))),oq 38 (.mv (.t 8)),oe 39 (.call 62 [(.t 37),(.v (.int .u64 0)),(.t 38)]),oq 40 (.ext 0 (.t 39)),oq 41 (.ext 1 (.t 39)),oq 4 (.mv (.t 40)),oq 5 (.mv (.t 41))]) .ret))))))))
@[go_sem] def c24_28_wp:=wp_of c24_28.eq_1
def c24:AFn:=⟨42,[.t 4,.t 5],c24_28⟩
theorem c24_ok:compF Tryz.prog Tryz.f24=some c24:=by kernel_rfl
theorem a24 {args:List AV} {σ:ASt} {R:AV->ASt->Prop} (hl:args.length<=42) (h:c24_28.wp Tryz.prog (RetQ [.t 4,.t 5] R) (init args) σ):ACalls Tryz.prog 24 args σ R:=acalls_of Tryz.func24 c24_ok hl h
/-! 29: tabular/deci.Mod -/
def c29_16:ACode := .seq (.ops [ oq 4 (.mv (.v (.int .i64 0))),oq 5 (.mv (.v (.bool false)))]) (.seq (.seq (.ops [ oq 7 (.mv (.t 1)),oq 8 (.bin .eql (.t 7) (.v (.int .i64 0)))]) (.cond (.t 8) (.seq (.ops [ oq 4 (.mv (.v (.int .i64 0))),oq 5 (.mv (.v (.bool false)))]) .ret) .skip)) (.seq (.ops [ oq 9 (.mv (.t 0)),oq 10 (.mv (.t 1)),oq 11 (.bin .rem (.t 9) (.t 10)),oq 6 (.mv (.t 11))]) (.seq (.seq (.ops [ oq 12 (.mv (.t 6)),oq 13 (.bin .neq (.t 12) (.v (.int .i64 0))),oq 14 (.mv (.t 13)),⟨some 15,some (14,true),.q (.mv (.t 6)),[]⟩,⟨some 16,some (14,true),.q (.bin .lss (.t 15) (.v (.int .i64 0))),[]⟩,⟨some 17,some (14,true),.q (.mv (.t 1)),[]⟩,⟨some 18,some (14,true),.q (.bin .lss (.t 17) (.v (.int .i64 0))),[]⟩,⟨some 19,some (14,true),.q (.eq .b true (.t 16) (.t 18)),[]⟩,oq 20 (.pick (.t 14) (.t 19) (.v (.bool false)))]) (.cond (.t 20) (.ops [ oq 21 (.mv (.t 6)),oq 22 (.mv (.t 1)),oq 23 (.bin .add (.t 21) (.t 22)),oq 6 (.mv (.t 23))]) .skip)) (.seq (.ops [ oq 24 (.mv (.t 6)),oq 4 (.mv (.t 24)),oq 5 (.mv (.v (.bool true)))]) .ret))))
@[go_sem] def c29_16_wp:=wp_of c29_16.eq_1
def c29:AFn:=⟨25,[.t 4,.t 5],c29_16⟩
theorem c29_ok:compF Tryz.prog Tryz.f29=some c29:=by kernel_rfl
theorem a29 {args:List AV} {σ:ASt} {R:AV->ASt->Prop} (hl:args.length<=25) (h:c29_16.wp Tryz.prog (RetQ [.t 4,.t 5] R) (init args) σ):ACalls Tryz.prog 29 args σ R:=acalls_of Tryz.func29 c29_ok hl h
/-! 58: tabular/deci.Sub -/
def c58_3:ACode := .seq (.ops [ oq 4 (.mv (.v (.int .i64 0))),oq 5 (.mv (.v (.bool false)))]) (.seq (.ops [ oq 6 (.mv (.t 0)),oq 7 (.mv (.t 1)),oq 8 (.bin .sub (.t 6) (.t 7)),oq 9 (.bin .lss (.t 8) (.v (.int .i64 0))),oq 10 (.mv (.t 0)),oq 11 (.mv (.t 1)),oq 12 (.bin .sub (.t 10) (.t 11)),oe 13 (.call 61 [(.t 12)]),oe 14 (.call 62 [(.t 9),(.v (.int .u64 0)),(.t 13)]),oq 15 (.ext 0 (.t 14)),oq 16 (.ext 1 (.t 14)),oq 4 (.mv (.t 15)),oq 5 (.mv (.t 16))]) .ret)
@[go_sem] def c58_3_wp:=wp_of c58_3.eq_1
def c58:AFn:=⟨17,[.t 4,.t 5],c58_3⟩
theorem c58_ok:compF Tryz.prog Tryz.f58=some c58:=by kernel_rfl
theorem a58 {args:List AV} {σ:ASt} {R:AV->ASt->Prop} (hl:args.length<=17) (h:c58_3.wp Tryz.prog (RetQ [.t 4,.t 5] R) (init args) σ):ACalls Tryz.prog 58 args σ R:=acalls_of Tryz.func58 c58_ok hl h
/-! 59: tabular/deci.unit -/
def c59_9:ACode := .seq (.ops [ oq 2 (.mv (.v (.int .u64 0))),oq 3 (.mv (.v (.bool false)))]) (.seq (.seq (.ops [ oq 4 (.mv (.t 0)),oq 5 (.bin .geq (.t 4) (.v (.int .i64 4))),oq 6 (.mv (.t 5)),⟨some 7,some (6,false),.q (.mv (.t 0)),[]⟩,⟨some 8,some (6,false),.q (.bin .lss (.t 7) (.v (.int .i64 (-14)))),[]⟩,oq 9 (.pick (.t 6) (.v (.bool true)) (.t 8))]) (.cond (.t 9) (.seq (.ops [ oq 2 (.mv (.v (.int .u64 0))),oq 3 (.mv (.v (.bool false)))]) .ret) .skip)) (.seq (.ops [ oq 10 (.ld none (.v (.ptr 0 0))),oq 11 (.mv (.t 0)),oq 12 (.bin .sub (.v (.int .i64 4)) (.t 11)),oq 13 (.ia 1 (.t 10) (.t 12)),oq 14 (.ld none (.t 13)),oq 2 (.mv (.t 14)),oq 3 (.mv (.v (.bool true)))]) .ret))
@[go_sem] def c59_9_wp:=wp_of c59_9.eq_1
def c59:AFn:=⟨15,[.t 2,.t 3],c59_9⟩
theorem c59_ok:compF Tryz.prog Tryz.f59=some c59:=by kernel_rfl
theorem a59 {args:List AV} {σ:ASt} {R:AV->ASt->Prop} (hl:args.length<=15) (h:c59_9.wp Tryz.prog (RetQ [.t 2,.t 3] R) (init args) σ):ACalls Tryz.prog 59 args σ R:=acalls_of Tryz.func59 c59_ok hl h
/-! 60: (tabular/deci.Dec).Whole -/
def c60_3:ACode := .seq (.ops [ oq 2 (.mv (.v (.int .i64 0)))]) (.seq (.ops [ oq 3 (.mv (.t 0)),oq 4 (.bin .quo (.t 3) (.v (.int .i64 10000))),oq 2 (.mv (.t 4))]) .ret)
@[go_sem] def c60_3_wp:=wp_of c60_3.eq_1
def c60:AFn:=⟨5,[.t 2],c60_3⟩
theorem c60_ok:compF Tryz.prog Tryz.f60=some c60:=by kernel_rfl
theorem a60 {args:List AV} {σ:ASt} {R:AV->ASt->Prop} (hl:args.length<=5) (h:c60_3.wp Tryz.prog (RetQ [.t 2] R) (init args) σ):ACalls Tryz.prog 60 args σ R:=acalls_of Tryz.func60 c60_ok hl h
/-! 61: tabular/deci.size -/
def c61_9:ACode := .seq (.ops [ oq 2 (.mv (.v (.int .u64 0)))]) (.seq (.seq (.ops [ oq 3 (.mv (.t 0)),oq 4 (.bin .lss (.t 3) (.v (.int .i64 0)))]) (.cond (.t 4) (.seq (.ops [ oq 5 (.mv (.t 0)),oq 6 (.un .neg (.t 5)),oq 7 (.conv .u64 (.t 6)),oq 2 (.mv (.t 7))]) .ret) .skip)) (.seq (.ops [ oq 8 (.mv (.t 0)),oq 9 (.conv .u64 (.t 8)),oq 2 (.mv (.t 9))]) .ret))
@[go_sem] def c61_9_wp:=wp_of c61_9.eq_1
def c61:AFn:=⟨10,[.t 2],c61_9⟩
theorem c61_ok:compF Tryz.prog Tryz.f61=some c61:=by kernel_rfl
theorem a61 {args:List AV} {σ:ASt} {R:AV->ASt->Prop} (hl:args.length<=10) (h:c61_9.wp Tryz.prog (RetQ [.t 2] R) (init args) σ):ACalls Tryz.prog 61 args σ R:=acalls_of Tryz.func61 c61_ok hl h
/-! 62: tabular/deci.made -/
def c62_15:ACode := .seq (.ops [ oq 6 (.mv (.v (.int .i64 0))),oq 7 (.mv (.v (.bool false)))]) (.seq (.seq (.ops [ oq 8 (.mv (.t 1)),oq 9 (.bin .gtr (.t 8) (.v (.int .u64 0))),oq 10 (.mv (.t 9)),⟨some 11,some (10,false),.q (.mv (.t 2)),[]⟩,⟨some 12,some (10,false),.q (.bin .gtr (.t 11) (.v (.int .u64 999999999999999999))),[]⟩,oq 13 (.pick (.t 10) (.v (.bool true)) (.t 12))]) (.cond (.t 13) (.seq (.ops [ oq 6 (.mv (.v (.int .i64 0))),oq 7 (.mv (.v (.bool false)))]) .ret) .skip)) (.seq (.seq (.ops [ oq 14 (.mv (.t 0))]) (.cond (.t 14) (.seq (.ops [ oq 15 (.mv (.t 2)),oq 16 (.conv .i64 (.t 15)),oq 17 (.un .neg (.t 16)),oq 6 (.mv (.t 17)),oq 7 (.mv (.v (.bool true)))]) .ret) .skip)) (.seq (.ops [ oq 18 (.mv (.t 2)),oq 19 (.conv .i64 (.t 18)),oq 6 (.mv (.t 19)),oq 7 (.mv (.v (.bool true)))]) .ret)))
@[go_sem] def c62_15_wp:=wp_of c62_15.eq_1
def c62:AFn:=⟨20,[.t 6,.t 7],c62_15⟩
theorem c62_ok:compF Tryz.prog Tryz.f62=some c62:=by kernel_rfl
theorem a62 {args:List AV} {σ:ASt} {R:AV->ASt->Prop} (hl:args.length<=20) (h:c62_15.wp Tryz.prog (RetQ [.t 6,.t 7] R) (init args) σ):ACalls Tryz.prog 62 args σ R:=acalls_of Tryz.func62 c62_ok hl h
/-! 63: tabular/deci.Pow -/
def c63_15:ACode := .seq (.seq (.ops [ oq 15 (.mv (.t 8)),oq 16 (.mv (.t 1)),oq 17 (.mv (.t 1)),oq 18 (.un .neg (.t 17)),oq 19 (.mnx true (.t 16) (.t 18)),oq 20 (.bin .lss (.t 15) (.t 19)),oq 21 (.mv (.t 20)),⟨some 22,some (21,true),.q (.mv (.t 7)),[]⟩,oq 23 (.pick (.t 21) (.t 22) (.v (.bool false)))]) (.cond (.t 23) .skip (.exit 0))) (.seq (.block 1 (.ops [ oq 27 (.mv (.t 6)),oq 28 (.mv (.t 0)),oe 29 (.call 70 [(.t 27),(.t 28)]),oq 26 (.mv (.t 29)),oq 30 (.ext 0 (.t 26)),oq 31 (.ext 1 (.t 26)),oq 6 (.mv (.t 30)),oq 7 (.mv (.t 31))])) (.ops [ oq 24 (.mv (.t 8)),oq 25 (.bin .add (.t 24) (.v (.int .i64 1))),oq 8 (.mv (.t 25))]))
def c63_26:ACode := .seq (.seq (.ops [ oq 32 (.mv (.t 7)),oq 33 (.mv (.t 32)),⟨some 34,some (33,true),.q (.mv (.t 1)),[]⟩,⟨some 35,some (33,true),.q (.bin .lss (.t 34) (.v (.int .i64 0))),[]⟩,oq 36 (.pick (.t 33) (.t 35) (.v (.bool false)))]) (.cond (.t 36) (.seq (.ops [ oq 37 (.mv (.t 6)),oe 38 (.call 90 [(.v (.int .i64 10000)),(.t 37)]),oq 39 (.ext 0 (.t 38)),oq 40 (.ext 1 (.t 38)),oq 4 (.mv (.t 39)),oq 5 (.mv (.t 40))]) .ret) .skip)) (.seq (.ops [ oq 41 (.mv (.t 6)),oq 42 (.mv (.t 7)),oq 4 (.mv (.t 41)),oq 5 (.mv (.t 42))]) .ret)
def c63_30:ACode := .seq (.ops [ oq 4 (.mv (.v (.int .i64 0))),oq 5 (.mv (.v (.bool false)))]) (.seq (.seq (.ops [ oq 9 (.mv (.t 1)),oq 10 (.bin .lss (.t 9) (.v (.int .i64 (-1000)))),oq 11 (.mv (.t 10)),⟨some 12,some (11,false),.q (.mv (.t 1)),[]⟩,⟨some 13,some (11,false),.q (.bin .gtr (.t 12) (.v (.int .i64 1000))),[]⟩,oq 14 (.pick (.t 11) (.v (.bool true)) (.t 13))]) (.cond (.t 14) (.seq (.ops [ oq 4 (.mv (.v (.int .i64 0))),oq 5 (.mv (.v (.bool false)))]) .ret) .skip)) (.seq (.ops [ oq 6 (.mv (.v (.int .i64 10000))),oq 7 (.mv (.v (.bool true)))]) (.seq (.seq (.ops [ oq 8 (.mv (.v (.int .i64 0)))]) (.block 0 (.loop c63_15))) c63_26)))
@[go_sem] def c63_15_wp:=wp_of c63_15.eq_1
@[go_sem] def c63_26_wp:=wp_of c63_26.eq_1
@[go_sem] def c63_30_wp:=wp_of c63_30.eq_1
def c63:AFn:=⟨43,[.t 4,.t 5],c63_30⟩
theorem c63_ok:compF Tryz.prog Tryz.f63=some c63:=by kernel_rfl
theorem a63 {args:List AV} {σ:ASt} {R:AV->ASt->Prop} (hl:args.length<=43) (h:c63_30.wp Tryz.prog (RetQ [.t 4,.t 5] R) (init args) σ):ACalls Tryz.prog 63 args σ R:=acalls_of Tryz.func63 c63_ok hl h
/-! 65: tabular/deci.Add -/
def c65_3:ACode := .seq (.ops [ oq 4 (.mv (.v (.int .i64 0))),oq 5 (.mv (.v (.bool false)))]) (.seq (.ops [ oq 6 (.mv (.t 0)),oq 7 (.mv (.t 1)),oq 8 (.bin .add (.t 6) (.t 7)),oq 9 (.bin .lss (.t 8) (.v (.int .i64 0))),oq 10 (.mv (.t 0)),oq 11 (.mv (.t 1)),oq 12 (.bin .add (.t 10) (.t 11)),oe 13 (.call 61 [(.t 12)]),oe 14 (.call 62 [(.t 9),(.v (.int .u64 0)),(.t 13)]),oq 15 (.ext 0 (.t 14)),oq 16 (.ext 1 (.t 14)),oq 4 (.mv (.t 15)),oq 5 (.mv (.t 16))]) .ret)
@[go_sem] def c65_3_wp:=wp_of c65_3.eq_1
def c65:AFn:=⟨17,[.t 4,.t 5],c65_3⟩
theorem c65_ok:compF Tryz.prog Tryz.f65=some c65:=by kernel_rfl
theorem a65 {args:List AV} {σ:ASt} {R:AV->ASt->Prop} (hl:args.length<=17) (h:c65_3.wp Tryz.prog (RetQ [.t 4,.t 5] R) (init args) σ):ACalls Tryz.prog 65 args σ R:=acalls_of Tryz.func65 c65_ok hl h
/-! 66: tabular/deci.Ceil -/
def c66_5:ACode := .seq (.ops [ oq 4 (.mv (.v (.int .i64 0))),oq 5 (.mv (.v (.bool false)))]) (.seq (.ops [ oq 9 (.mv (.t 0)),oq 10 (.un .neg (.t 9)),oq 11 (.mv (.t 1)),oe 12 (.call 21 [(.t 10),(.t 11)]),oq 8 (.mv (.t 12)),oq 13 (.ext 0 (.t 8)),oq 14 (.ext 1 (.t 8)),oq 6 (.mv (.t 13)),oq 7 (.mv (.t 14))]) (.seq (.ops [ oq 15 (.mv (.t 6)),oq 16 (.un .neg (.t 15)),oq 17 (.mv (.t 7)),oq 4 (.mv (.t 16)),oq 5 (.mv (.t 17))]) .ret))
@[go_sem] def c66_5_wp:=wp_of c66_5.eq_1
def c66:AFn:=⟨18,[.t 4,.t 5],c66_5⟩
theorem c66_ok:compF Tryz.prog Tryz.f66=some c66:=by kernel_rfl
theorem a66 {args:List AV} {σ:ASt} {R:AV->ASt->Prop} (hl:args.length<=18) (h:c66_5.wp Tryz.prog (RetQ [.t 4,.t 5] R) (init args) σ):ACalls Tryz.prog 66 args σ R:=acalls_of Tryz.func66 c66_ok hl h
/-! 68: (tabular/deci.Dec).IsInt -/
def c68_3:ACode := .seq (.ops [ oq 2 (.mv (.v (.bool false)))]) (.seq (.ops [ oq 3 (.mv (.t 0)),oq 4 (.bin .rem (.t 3) (.v (.int .i64 10000))),oq 5 (.bin .eql (.t 4) (.v (.int .i64 0))),oq 2 (.mv (.t 5))]) .ret)
@[go_sem] def c68_3_wp:=wp_of c68_3.eq_1
def c68:AFn:=⟨6,[.t 2],c68_3⟩
theorem c68_ok:compF Tryz.prog Tryz.f68=some c68:=by kernel_rfl
theorem a68 {args:List AV} {σ:ASt} {R:AV->ASt->Prop} (hl:args.length<=6) (h:c68_3.wp Tryz.prog (RetQ [.t 2] R) (init args) σ):ACalls Tryz.prog 68 args σ R:=acalls_of Tryz.func68 c68_ok hl h
/-! 70: tabular/deci.Mul -/
def c70_13:ACode := .seq (.ops [ oq 4 (.mv (.v (.int .i64 0))),oq 5 (.mv (.v (.bool false)))]) (.seq (.ops [ oq 11 (.mv (.t 0)),oe 12 (.call 61 [(.t 11)]),oq 13 (.mv (.t 1)),oe 14 (.call 61 [(.t 13)]),oe 15 (.call 69 [(.t 12),(.t 14)]),oq 10 (.mv (.t 15)),oq 16 (.ext 0 (.t 10)),oq 17 (.ext 1 (.t 10)),oq 6 (.mv (.t 16)),oq 7 (.mv (.t 17))]) (.seq (.ops [ oq 19 (.mv (.t 6)),oq 20 (.mv (.t 7)),oe 21 (.call 91 [(.t 19),(.t 20),(.v (.int .u64 10000))]),oq 18 (.mv (.t 21)),oq 22 (.ext 0 (.t 18)),oq 23 (.ext 1 (.t 18)),oq 8 (.mv (.t 22)),oq 9 (.mv (.t 23))]) (.seq (.seq (.ops [ oq 24 (.mv (.t 9)),oq 25 (.un .not (.t 24))]) (.cond (.t 25) (.seq (.ops [ oq 4 (.mv (.v (.int .i64 0))),oq 5 (.mv (.v (.bool false)))]) .ret) .skip)) (.seq (.ops [ oq 26 (.mv (.t 0)),oq 27 (.bin .lss (.t 26) (.v (.int .i64 0))),oq 28 (.mv (.t 1)),oq 29 (.bin .lss (.t 28) (.v (.int .i64 0))),oq 30 (.eq .b true (.t 27) (.t 29)),oq 31 (.mv (.t 8)),oe 32 (.call 62 [(.t 30),(.v (.int .u64 0)),(.t 31)]),oq 33 (.ext 0 (.t 32)),oq 34 (.ext 1 (.t 32)),oq 4 (.mv (.t 33)),oq 5 (.mv (.t 34))]) .ret))))
@[go_sem] def c70_13_wp:=wp_of c70_13.eq_1
def c70:AFn:=⟨35,[.t 4,.t 5],c70_13⟩
theorem c70_ok:compF Tryz.prog Tryz.f70=some c70:=by kernel_rfl
theorem a70 {args:List AV} {σ:ASt} {R:AV->ASt->Prop} (hl:args.length<=35) (h:c70_13.wp Tryz.prog (RetQ [.t 4,.t 5] R) (init args) σ):ACalls Tryz.prog 70 args σ R:=acalls_of Tryz.func70 c70_ok hl h
/-! 72: tabular/deci.Good -/
def c72_3:ACode := .seq (.ops [ oq 2 (.mv (.v (.bool false)))]) (.seq (.ops [ oq 3 (.mv (.t 0)),oq 4 (.bin .geq (.t 3) (.v (.int .i64 (-999999999999999999)))),oq 5 (.mv (.t 4)),⟨some 6,some (5,true),.q (.mv (.t 0)),[]⟩,⟨some 7,some (5,true),.q (.bin .leq (.t 6) (.v (.int .i64 999999999999999999))),[]⟩,oq 8 (.pick (.t 5) (.t 7) (.v (.bool false))),oq 2 (.mv (.t 8))]) .ret)
@[go_sem] def c72_3_wp:=wp_of c72_3.eq_1
def c72:AFn:=⟨9,[.t 2],c72_3⟩
theorem c72_ok:compF Tryz.prog Tryz.f72=some c72:=by kernel_rfl
theorem a72 {args:List AV} {σ:ASt} {R:AV->ASt->Prop} (hl:args.length<=9) (h:c72_3.wp Tryz.prog (RetQ [.t 2] R) (init args) σ):ACalls Tryz.prog 72 args σ R:=acalls_of Tryz.func72 c72_ok hl h
/-! 88: tabular/deci.Parse -/
def c88_25:ACode := .seq (.ops [ oq 47 (.bin .lss (.t 46) (.t 45))]) (.seq (.cond (.t 47) .skip (.exit 0)) (.seq (.block 1 (.seq (.ops [ oq 48 (.ia 1 (.t 44) (.t 46)),oq 49 (.ld none (.t 48)),oq 11 (.mv (.t 49))]) (.seq (.seq (.ops [ oq 50 (.mv (.t 11)),oq 51 (.bin .lss (.t 50) (.v (.int .u8 48))),oq 52 (.mv (.t 51)),⟨some 53,some (52,false),.q (.mv (.t 11)),[]⟩,⟨some 54,some (52,false),.q (.bin .gtr (.t 53) (.v (.int .u8 57))),[]⟩,oq 55 (.pick (.t 52) (.v (.bool true)) (.t 54)),oq 56 (.mv (.t 55)),⟨some 57,some (56,false),.q (.mv (.t 9)),[]⟩,⟨some 58,some (56,false),.q (.bin .gtr (.t 57) (.v (.int .u64 99999999999999999))),[]⟩,oq 59 (.pick (.t 56) (.v (.bool true)) (.t 58))]) (.cond (.t 59) (.seq (.ops [ oq 2 (.mv (.v (.int .i64 0))),oq 3 (.mv (.v (.bool false)))]) .ret) .skip)) (.ops [ oq 60 (.mv (.t 9)),oq 61 (.bin .mul (.v (.int .u64 10)) (.t 60)),oq 62 (.mv (.t 11)),oq 63 (.bin .sub (.t 62) (.v (.int .u8 48))),oq 64 (.conv .u64 (.t 63)),oq 65 (.bin .add (.t 61) (.t 64)),oq 9 (.mv (.t 65))])))) (.ops [ oq 66 (.bin .add (.t 46) (.v (.int .i64 1))),oq 46 (.mv (.t 66))])))
def c88_32:ACode := .seq (.ops [ oq 9 (.mv (.v (.int .u64 0)))]) (.seq (.seq (.ops [ oq 37 (.mv (.t 6)),oq 38 (.mv (.t 7)),oq 39 (.bin .add (.t 37) (.t 38)),oq 40 (.mv (.t 7)),oq 41 (.lenS (.t 40)),oq 42 (.slfrom (true,0) (.v (.str [48,48,48,48])) (.t 41)),oq 43 (.bin .add (.t 39) (.t 42)),oe 44 (.s2b (.t 43)),oq 45 (.len (.t 44)),oq 46 (.mv (.v (.int .i64 0)))]) (.block 0 (.loop c88_25))) (.seq (.ops [ oq 67 (.mv (.t 5)),oq 68 (.mv (.t 9)),oe 69 (.call 62 [(.t 67),(.v (.int .u64 0)),(.t 68)]),oq 70 (.ext 0 (.t 69)),oq 71 (.ext 1 (.t 69)),oq 2 (.mv (.t 70)),oq 3 (.mv (.t 71))]) .ret))
def c88_36:ACode := .seq (.ops [ oq 2 (.mv (.v (.int .i64 0))),oq 3 (.mv (.v (.bool false)))]) (.seq (.ops [ oq 13 (.mv (.t 0)),oe 14 (.call 95 [(.t 13),(.v (.str [45]))]),oq 12 (.mv (.t 14)),oq 15 (.ext 0 (.t 12)),oq 16 (.ext 1 (.t 12)),oq 4 (.mv (.t 15)),oq 5 (.mv (.t 16))]) (.seq (.ops [ oq 18 (.mv (.t 4)),oe 19 (.call 96 [(.t 18),(.v (.str [46]))]),oq 17 (.mv (.t 19)),oq 20 (.ext 0 (.t 17)),oq 21 (.ext 1 (.t 17)),oq 22 (.ext 2 (.t 17)),oq 6 (.mv (.t 20)),oq 7 (.mv (.t 21)),oq 8 (.mv (.t 22))]) (.seq (.seq (.ops [ oq 23 (.mv (.t 6)),oq 24 (.bin .eql (.t 23) (.v (.str []))),oq 25 (.mv (.t 24)),⟨some 26,some (25,false),.q (.mv (.t 8)),[]⟩,⟨some 27,some (25,false),.q (.mv (.t 26)),[]⟩,⟨some 28,some (27,true),.q (.mv (.t 7)),[]⟩,⟨some 29,some (27,true),.q (.bin .eql (.t 28) (.v (.str []))),[]⟩,⟨some 30,some (27,true),.q (.mv (.t 29)),[]⟩,⟨some 31,some (30,false),.q (.mv (.t 7)),[]⟩,⟨some 32,some (30,false),.q (.lenS (.t 31)),[]⟩,⟨some 33,some (30,false),.q (.bin .gtr (.t 32) (.v (.int .i64 4))),[]⟩,⟨some 34,some (27,true),.q (.pick (.t 30) (.v (.bool true)) (.t 33)),[]⟩,⟨some 35,some (25,false),.q (.pick (.t 27) (.t 34) (.v (.bool false))),[]⟩,oq 36 (.pick (.t 25) (.v (.bool true)) (.t 35))]) (.cond (.t 36) (.seq (.ops [ oq 2 (.mv (.v (.int .i64 0))),oq 3 (.mv (.v (.bool false)))]) .ret) .skip)) c88_32)))
@[go_sem] def c88_25_wp:=wp_of c88_25.eq_1
@[go_sem] def c88_32_wp:=wp_of c88_32.eq_1
@[go_sem] def c88_36_wp:=wp_of c88_36.eq_1
def c88:AFn:=⟨72,[.t 2,.t 3],c88_36⟩
theorem c88_ok:compF Tryz.prog Tryz.f88=some c88:=by kernel_rfl
theorem a88 {args:List AV} {σ:ASt} {R:AV->ASt->Prop} (hl:args.length<=72) (h:c88_36.wp Tryz.prog (RetQ [.t 2,.t 3] R) (init args) σ):ACalls Tryz.prog 88 args σ R:=acalls_of Tryz.func88 c88_ok hl h
/-! 90: tabular/deci.Div -/
def c90_19:ACode := .seq (.ops [ oq 4 (.mv (.v (.int .i64 0))),oq 5 (.mv (.v (.bool false)))]) (.seq (.seq (.ops [ oq 10 (.mv (.t 1)),oq 11 (.bin .eql (.t 10) (.v (.int .i64 0)))]) (.cond (.t 11) (.seq (.ops [ oq 4 (.mv (.v (.int .i64 0))),oq 5 (.mv (.v (.bool false)))]) .ret) .skip)) (.seq (.ops [ oq 13 (.mv (.t 0)),oe 14 (.call 61 [(.t 13)]),oe 15 (.call 69 [(.t 14),(.v (.int .u64 10000))]),oq 12 (.mv (.t 15)),oq 16 (.ext 0 (.t 12)),oq 17 (.ext 1 (.t 12)),oq 6 (.mv (.t 16)),oq 7 (.mv (.t 17))]) (.seq (.ops [ oq 19 (.mv (.t 6)),oq 20 (.mv (.t 7)),oq 21 (.mv (.t 1)),oe 22 (.call 61 [(.t 21)]),oe 23 (.call 91 [(.t 19),(.t 20),(.t 22)]),oq 18 (.mv (.t 23)),oq 24 (.ext 0 (.t 18)),oq 25 (.ext 1 (.t 18)),oq 8 (.mv (.t 24)),oq 9 (.mv (.t 25))]) (.seq (.seq (.ops [ oq 26 (.mv (.t 9)),oq 27 (.un .not (.t 26))]) (.cond (.t 27) (.seq (.ops [ oq 4 (.mv (.v (.int .i64 0))),oq 5 (.mv (.v (.bool false)))]) .ret) .skip)) (.seq (.ops [ oq 28 (.mv (.t 0)),oq 29 (.bin .lss (.t 28) (.v (.int .i64 0))),oq 30 (.mv (.t 1)),oq 31 (.bin .lss (.t 30) (.v (.int .i64 0))),oq 32 (.eq .b true (.t 29) (.t 31)),oq 33 (.mv (.t 8)),oe 34 (.call 62 [(.t 32),(.v (.int .u64 0)),(.t 33)]),oq 35 (.ext 0 (.t 34)),oq 36 (.ext 1 (.t 34)),oq 4 (.mv (.t 35)),oq 5 (.mv (.t 36))]) .ret)))))
@[go_sem] def c90_19_wp:=wp_of c90_19.eq_1
def c90:AFn:=⟨37,[.t 4,.t 5],c90_19⟩
theorem c90_ok:compF Tryz.prog Tryz.f90=some c90:=by kernel_rfl
theorem a90 {args:List AV} {σ:ASt} {R:AV->ASt->Prop} (hl:args.length<=37) (h:c90_19.wp Tryz.prog (RetQ [.t 4,.t 5] R) (init args) σ):ACalls Tryz.prog 90 args σ R:=acalls_of Tryz.func90 c90_ok hl h
/-! 91: tabular/deci.quot -/
def c91_16:ACode := .seq (.ops [ oq 6 (.mv (.v (.int .u64 0))),oq 7 (.mv (.v (.bool false)))]) (.seq (.seq (.ops [ oq 10 (.mv (.t 0)),oq 11 (.mv (.t 2)),oq 12 (.bin .geq (.t 10) (.t 11))]) (.cond (.t 12) (.seq (.ops [ oq 6 (.mv (.v (.int .u64 0))),oq 7 (.mv (.v (.bool false)))]) .ret) .skip)) (.seq (.ops [ oq 14 (.mv (.t 0)),oq 15 (.mv (.t 1)),oq 16 (.mv (.t 2)),oe 17 (.call 98 [(.t 14),(.t 15),(.t 16)]),oq 13 (.mv (.t 17)),oq 18 (.ext 0 (.t 13)),oq 19 (.ext 1 (.t 13)),oq 8 (.mv (.t 18)),oq 9 (.mv (.t 19))]) (.seq (.seq (.ops [ oq 20 (.mv (.t 9)),oq 21 (.mv (.t 2)),oq 22 (.mv (.t 9)),oq 23 (.bin .sub (.t 21) (.t 22)),oq 24 (.bin .geq (.t 20) (.t 23))]) (.cond (.t 24) (.ops [ oq 25 (.mv (.t 8)),oq 26 (.bin .add (.t 25) (.v (.int .u64 1))),oq 8 (.mv (.t 26))]) .skip)) (.seq (.ops [ oq 27 (.mv (.t 8)),oq 28 (.mv (.t 8)),oq 29 (.bin .leq (.t 28) (.v (.int .u64 999999999999999999))),oq 6 (.mv (.t 27)),oq 7 (.mv (.t 29))]) .ret))))
@[go_sem] def c91_16_wp:=wp_of c91_16.eq_1
def c91:AFn:=⟨30,[.t 6,.t 7],c91_16⟩
theorem c91_ok:compF Tryz.prog Tryz.f91=some c91:=by kernel_rfl
theorem a91 {args:List AV} {σ:ASt} {R:AV->ASt->Prop} (hl:args.length<=30) (h:c91_16.wp Tryz.prog (RetQ [.t 6,.t 7] R) (init args) σ):ACalls Tryz.prog 91 args σ R:=acalls_of Tryz.func91 c91_ok hl h
/-! 96: strings.Cut -/
def c96_3:ACode := .seq (.ops [ oq 4 (.mv (.v (.str []))),oq 5 (.mv (.v (.str []))),oq 6 (.mv (.v (.bool false)))]) (.seq (.ops [ oq 7 (.mv (.t 0)),oq 8 (.mv (.t 1)),oe 9 (.call 101 [(.t 7),(.t 8)]),oq 10 (.ext 0 (.t 9)),oq 11 (.ext 1 (.t 9)),oq 12 (.ext 2 (.t 9)),oq 4 (.mv (.t 10)),oq 5 (.mv (.t 11)),oq 6 (.mv (.t 12))]) .ret)
@[go_sem] def c96_3_wp:=wp_of c96_3.eq_1
def c96:AFn:=⟨13,[.t 4,.t 5,.t 6],c96_3⟩
theorem c96_ok:compF Tryz.prog Tryz.f96=some c96:=by kernel_rfl
theorem a96 {args:List AV} {σ:ASt} {R:AV->ASt->Prop} (hl:args.length<=13) (h:c96_3.wp Tryz.prog (RetQ [.t 4,.t 5,.t 6] R) (init args) σ):ACalls Tryz.prog 96 args σ R:=acalls_of Tryz.func96 c96_ok hl h
/-! 98: math/bits.Div64 -/
def c98_35:ACode := .seq (.seq (.ops [ oq 67 (.mv (.t 15)),oq 68 (.bin .geq (.t 67) (.v (.int .u64 4294967296))),oq 69 (.mv (.t 68)),⟨some 70,some (69,false),.q (.mv (.t 15)),[]⟩,⟨some 71,some (69,false),.q (.mv (.t 10)),[]⟩,⟨some 72,some (69,false),.q (.bin .mul (.t 70) (.t 71)),[]⟩,⟨some 73,some (69,false),.q (.mv (.t 16)),[]⟩,⟨some 74,some (69,false),.q (.bin .mul (.v (.int .u64 4294967296)) (.t 73)),[]⟩,⟨some 75,some (69,false),.q (.mv (.t 13)),[]⟩,⟨some 76,some (69,false),.q (.bin .add (.t 74) (.t 75)),[]⟩,⟨some 77,some (69,false),.q (.bin .gtr (.t 72) (.t 76)),[]⟩,oq 78 (.pick (.t 69) (.v (.bool true)) (.t 77))]) (.cond (.t 78) .skip (.exit 0))) (.block 1 (.seq (.ops [ oq 79 (.mv (.t 15)),oq 80 (.bin .sub (.t 79) (.v (.int .u64 1))),oq 15 (.mv (.t 80))]) (.seq (.ops [ oq 81 (.mv (.t 16)),oq 82 (.mv (.t 9)),oq 83 (.bin .add (.t 81) (.t 82)),oq 16 (.mv (.t 83))]) (.seq (.ops [ oq 84 (.mv (.t 16)),oq 85 (.bin .geq (.t 84) (.v (.int .u64 4294967296)))]) (.cond (.t 85) (.exit 0) .skip)))))
def c98_52:ACode := .seq (.seq (.ops [ oq 102 (.mv (.t 18)),oq 103 (.bin .geq (.t 102) (.v (.int .u64 4294967296))),oq 104 (.mv (.t 103)),⟨some 105,some (104,false),.q (.mv (.t 18)),[]⟩,⟨some 106,some (104,false),.q (.mv (.t 10)),[]⟩,⟨some 107,some (104,false),.q (.bin .mul (.t 105) (.t 106)),[]⟩,⟨some 108,some (104,false),.q (.mv (.t 16)),[]⟩,⟨some 109,some (104,false),.q (.bin .mul (.v (.int .u64 4294967296)) (.t 108)),[]⟩,⟨some 110,some (104,false),.q (.mv (.t 14)),[]⟩,⟨some 111,some (104,false),.q (.bin .add (.t 109) (.t 110)),[]⟩,⟨some 112,some (104,false),.q (.bin .gtr (.t 107) (.t 111)),[]⟩,oq 113 (.pick (.t 104) (.v (.bool true)) (.t 112))]) (.cond (.t 113) .skip (.exit 2))) (.block 3 (.seq (.ops [ oq 114 (.mv (.t 18)),oq 115 (.bin .sub (.t 114) (.v (.int .u64 1))),oq 18 (.mv (.t 115))]) (.seq (.ops [ oq 116 (.mv (.t 16)),oq 117 (.mv (.t 9)),oq 118 (.bin .add (.t 116) (.t 117)),oq 16 (.mv (.t 118))]) (.seq (.ops [ oq 119 (.mv (.t 16)),oq 120 (.bin .geq (.t 119) (.v (.int .u64 4294967296)))]) (.cond (.t 120) (.exit 2) .skip)))))
def c98_56:ACode := .seq (.ops [ oq 121 (.mv (.t 15)),oq 122 (.bin .mul (.t 121) (.v (.int .u64 4294967296))),oq 123 (.mv (.t 18)),oq 124 (.bin .add (.t 122) (.t 123)),oq 125 (.mv (.t 17)),oq 126 (.bin .mul (.t 125) (.v (.int .u64 4294967296))),oq 127 (.mv (.t 14)),oq 128 (.bin .add (.t 126) (.t 127)),oq 129 (.mv (.t 18)),oq 130 (.mv (.t 2)),oq 131 (.bin .mul (.t 129) (.t 130)),oq 132 (.bin .sub (.t 128) (.t 131)),oq 133 (.mv (.t 8)),oq 134 (.bin .shr (.t 132) (.t 133)),oq 6 (.mv (.t 124)),oq 7 (.mv (.t 134))]) .ret
def c98_59:ACode := .seq (.ops [ oq 94 (.mv (.t 17)),oq 95 (.mv (.t 9)),oq 96 (.bin .quo (.t 94) (.t 95)),oq 18 (.mv (.t 96))]) (.seq (.ops [ oq 97 (.mv (.t 17)),oq 98 (.mv (.t 18)),oq 99 (.mv (.t 9)),oq 100 (.bin .mul (.t 98) (.t 99)),oq 101 (.bin .sub (.t 97) (.t 100)),oq 16 (.mv (.t 101))]) (.seq (.block 2 (.loop c98_52)) c98_56))
def c98_60:ACode := .seq (.ops [ oq 86 (.mv (.t 11)),oq 87 (.bin .mul (.t 86) (.v (.int .u64 4294967296))),oq 88 (.mv (.t 13)),oq 89 (.bin .add (.t 87) (.t 88)),oq 90 (.mv (.t 15)),oq 91 (.mv (.t 2)),oq 92 (.bin .mul (.t 90) (.t 91)),oq 93 (.bin .sub (.t 89) (.t 92)),oq 17 (.mv (.t 93))]) c98_59
def c98_75:ACode := .seq (.ops [ oq 6 (.mv (.v (.int .u64 0))),oq 7 (.mv (.v (.int .u64 0)))]) (.seq (.seq (.ops [ oq 19 (.mv (.t 2)),oq 20 (.bin .eql (.t 19) (.v (.int .u64 0)))]) (.cond (.t 20) (.ops [ oq 21 (.ld none (.v (.ptr 1 0))),oz (.dead)]) .skip)) (.seq (.seq (.ops [ oq 22 (.mv (.t 2)),oq 23 (.mv (.t 0)),oq 24 (.bin .leq (.t 22) (.t 23))]) (.cond (.t 24) (.ops [ oq 25 (.ld none (.v (.ptr 2 0))),oz (.dead)]) .skip)) (.seq (.seq (.ops [ oq 26 (.mv (.t 0)),oq 27 (.bin .eql (.t 26) (.v (.int .u64 0)))]) (.cond (.t 27) (.seq (.ops [ oq 28 (.mv (.t 1)),oq 29 (.mv (.t 2)),oq 30 (.bin .quo (.t 28) (.t 29)),oq 31 (.mv (.t 1)),oq 32 (.mv (.t 2)),oq 33 (.bin .rem (.t 31) (.t 32)),oq 6 (.mv (.t 30)),oq 7 (.mv (.t 33))]) .ret) .skip)) (.seq (.ops [ oq 34 (.mv (.t 2)),oe 35 (.call 109 [(.t 34)]),oq 36 (.conv .u64 (.t 35)),oq 8 (.mv (.t 36))]) (.seq (.ops [ oq 37 (.mv (.t 2)),oq 38 (.mv (.t 8)),oq 39 (.bin .shl (.t 37) (.t 38)),oq 2 (.mv (.t 39))]) (.seq (.ops [ oq 40 (.mv (.t 2)),oq 41 (.bin .shr (.t 40) (.v (.int .u64 32))),oq 9 (.mv (.t 41))]) (.seq (.ops [ oq 42 (.mv (.t 2)),oq 43 (.bin .and (.t 42) (.v (.int .u64 4294967295))),oq 10 (.mv (.t 43))]) (.seq (.ops [ oq 44 (.mv (.t 0)),oq 45 (.mv (.t 8)),oq 46 (.bin .shl (.t 44) (.t 45)),oq 47 (.mv (.t 1)),oq 48 (.mv (.t 8)),oq 49 (.bin .sub (.v (.int .u64 64)) (.t 48)),oq 50 (.bin .shr (.t 47) (.t 49)),oq 51 (.bin .or (.t 46) (.t 50)),oq 11 (.mv (.t 51))]) (.seq (.ops [ oq 52 (.mv (.t 1)),oq 53 (.mv (.t 8)),oq 54 (.bin .shl (.t 52) (.t 53)),oq 12 (.mv (.t 54))]) (.seq (.ops [ oq 55 (.mv (.t 12)),oq 56 (.bin .shr (.t 55) (.v (.int .u64 32))),oq 13 (.mv (.t 56))]) (.seq (.ops [ oq 57 (.mv (.t 12)),oq 58 (.bin .and (.t 57) (.v (.int .u64 4294967295))),oq 14 (.mv (.t 58))]) (.seq (.ops [ oq 59 (.mv (.t 11)),oq 60 (.mv (.t 9)),oq 61 (.bin .quo (.t 59) (.t 60)),oq 15 (.mv (.t 61))]) (.seq (.ops [ oq 62 (.mv (.t 11)),oq 63 (.mv (.t 15)),oq 64 (.mv (.t 9)),oq 65 (.bin .mul (.t 63) (.t 64)),oq 66 (.bin .sub (.t 62) (.t 65)),oq 16 (.mv (.t 66))]) (.seq (.block 0 (.loop c98_35)) c98_60))))))))))))))
@[go_sem] def c98_35_wp:=wp_of c98_35.eq_1
@[go_sem] def c98_52_wp:=wp_of c98_52.eq_1
@[go_sem] def c98_56_wp:=wp_of c98_56.eq_1
@[go_sem] def c98_59_wp:=wp_of c98_59.eq_1
@[go_sem] def c98_60_wp:=wp_of c98_60.eq_1
@[go_sem] def c98_75_wp:=wp_of c98_75.eq_1
def c98:AFn:=⟨135,[.t 6,.t 7],c98_75⟩
theorem c98_ok:compF Tryz.prog Tryz.f98=some c98:=by kernel_rfl
theorem a98 {args:List AV} {σ:ASt} {R:AV->ASt->Prop} (hl:args.length<=135) (h:c98_75.wp Tryz.prog (RetQ [.t 6,.t 7] R) (init args) σ):ACalls Tryz.prog 98 args σ R:=acalls_of Tryz.func98 c98_ok hl h
/-! 101: internal/stringslite.Cut -/
def c101_11:ACode := .seq (.ops [ oq 4 (.mv (.v (.str []))),oq 5 (.mv (.v (.str []))),oq 6 (.mv (.v (.bool false)))]) (.seq (.seq (.ops [ oq 8 (.mv (.t 0)),oq 9 (.mv (.t 1)),oe 10 (.call 111 [(.t 8),(.t 9)]),oq 7 (.mv (.t 10))]) (.seq (.ops [ oq 11 (.mv (.t 7)),oq 12 (.bin .geq (.t 11) (.v (.int .i64 0)))]) (.cond (.t 12) (.seq (.ops [ oq 13 (.mv (.t 0)),oq 14 (.mv (.t 7)),oq 15 (.slto (true,0) (.t 13) (.t 14)),oq 16 (.mv (.t 0)),oq 17 (.mv (.t 7)),oq 18 (.mv (.t 1)),oq 19 (.lenS (.t 18)),oq 20 (.bin .add (.t 17) (.t 19)),oq 21 (.slfrom (true,0) (.t 16) (.t 20)),oq 4 (.mv (.t 15)),oq 5 (.mv (.t 21)),oq 6 (.mv (.v (.bool true)))]) .ret) .skip))) (.seq (.ops [ oq 22 (.mv (.t 0)),oq 4 (.mv (.t 22)),oq 5 (.mv (.v (.str []))),oq 6 (.mv (.v (.bool false)))]) .ret))
@[go_sem] def c101_11_wp:=wp_of c101_11.eq_1
def c101:AFn:=⟨23,[.t 4,.t 5,.t 6],c101_11⟩
theorem c101_ok:compF Tryz.prog Tryz.f101=some c101:=by kernel_rfl
theorem a101 {args:List AV} {σ:ASt} {R:AV->ASt->Prop} (hl:args.length<=23) (h:c101_11.wp Tryz.prog (RetQ [.t 4,.t 5,.t 6] R) (init args) σ):ACalls Tryz.prog 101 args σ R:=acalls_of Tryz.func101 c101_ok hl h
/-! 109: math/bits.LeadingZeros64 -/
def c109_3:ACode := .seq (.ops [ oq 2 (.mv (.v (.int .i64 0)))]) (.seq (.ops [ oq 3 (.mv (.t 0)),oe 4 (.call 115 [(.t 3)]),oq 5 (.bin .sub (.v (.int .i64 64)) (.t 4)),oq 2 (.mv (.t 5))]) .ret)
@[go_sem] def c109_3_wp:=wp_of c109_3.eq_1
def c109:AFn:=⟨6,[.t 2],c109_3⟩
theorem c109_ok:compF Tryz.prog Tryz.f109=some c109:=by kernel_rfl
theorem a109 {args:List AV} {σ:ASt} {R:AV->ASt->Prop} (hl:args.length<=6) (h:c109_3.wp Tryz.prog (RetQ [.t 2] R) (init args) σ):ACalls Tryz.prog 109 args σ R:=acalls_of Tryz.func109 c109_ok hl h
end Go.A
namespace Go.A
open Go.Proofs Go.Shelf Go.RowKit Go.Sort
theorem mul64_ok (x y:Nat) (hx:x<18446744073709551616) (hy:y<18446744073709551616):Pure Tryz.prog 69 [.int .u64 x,.int .u64 y] (.tuple [.int .u64 ((x*y / 18446744073709551616:Nat):Int),.int .u64 ((x*y % 18446744073709551616:Nat):Int)]):=by
 intro σ
 refine ACalls.of_ext (u := .tuple #[.int .u64 ((x*y / 18446744073709551616:Nat):Int),.int .u64 ((x*y % 18446744073709551616:Nat):Int)]) (fun w vs hs ha=>?_) fun w => .tuple (.cons (.int _ _) (.cons (.int _ _) .nil))
 cases ha with
 | cons h1 h2=>
 cases h2 with
 | cons h2 h3=>
 cases h1;cases h2;cases h3
 exact (Tryz.bits_Mul64 x y hx hy w).mono fun e w' ⟨he,hw⟩=>⟨he,Ext.of_eq hw⟩
theorem cutPrefix_ok (s p:List UInt8):Pure Tryz.prog 95 [.str s,.str p] (.tuple [.str (Lib.trimPrefix s p),.bool (Lib.hasPrefix s p)]):=by
 intro σ
 refine ACalls.of_ext (u := .tuple #[.string ⟨(Lib.trimPrefix s p).toArray⟩,.bool (Lib.hasPrefix s p)]) (fun w vs hs ha=>?_) fun w => .tuple (.cons (.str _) (.cons (.bool _) .nil))
 cases ha with
 | cons h1 h2=>
 cases h2 with
 | cons h2 h3=>
 cases h1;cases h2;cases h3
 exact (Tryz.strings_CutPrefix ⟨⟨s⟩⟩ ⟨⟨p⟩⟩ w).mono fun e w' ⟨he,hw⟩=>⟨he,Ext.of_eq hw⟩
theorem sindex_ok (s:List UInt8) (c:UInt8):Pure Tryz.prog 111 [.str s,.str [c]] (.int .i64 (Lib.indexByte s c)):=by
 intro σ
 refine ACalls.of_ext (u := .int .i64 (Lib.indexByte s c)) (fun w vs hs ha=>?_) fun w => .int _ _
 cases ha with
 | cons h1 h2=>
 cases h2 with
 | cons h2 h3=>
 cases h1;cases h2;cases h3
 exact (Tryz.stringslite_Index_one ⟨⟨s⟩⟩ c w).mono fun e w' ⟨he,hw⟩=>⟨he,Ext.of_eq hw⟩
theorem cutc_ok (l:List UInt8) (c:UInt8) (hl:l.length<=1000000000):Pure Tryz.prog 96 [.str l,.str [c]] (.tuple [.str (Lib.cut l [c]).1,.str (Lib.cut l [c]).2.1,.bool (Lib.cut l [c]).2.2]):=by
 have h1:Pure Tryz.prog 101 [.str l,.str [c]] (.tuple [.str (Lib.cut l [c]).1,.str (Lib.cut l [c]).2.1,.bool (Lib.cut l [c]).2.2]):=by
  intro σ
  have hi:=sindex_ok l c
  have hr:=Lib.index_room l [c]
  unfold Lib.cut
  rw [Lib.index_one] at hr ⊢
  have hg:=Lib.indexByte_ge l c
  refine a101 (by simp) ?_
  by_cases h0:0<=Lib.indexByte l c
  ·obtain ⟨i,e⟩:∃ i:Nat,Lib.indexByte l c=i:=⟨(Lib.indexByte l c).toNat,by omega⟩
   rw [e] at hi hr ⊢
   have hr:=hr (by omega)
   simp only [List.length_cons,List.length_nil] at hr
   rw [if_pos (by omega)]
   have e1:(0:Int)<=i:=by omega
   have e2:((i:Int)+1).toNat=i+1:=by omega
   have e3:(i:Int)<=l.length:=by omega
   have e4:(i:Int)+1<=l.length:=by omega
   simp (disch:=first|assumption|omega|(simp only [List.length_append,List.length_cons,List.length_nil];omega)) only [go_sem,reduceCtorEq,Nat.reduceEqDiff,Nat.reduceAdd,Nat.reduceSub,Nat.reduceMul,Nat.reduceLeDiff,Int.reduceLT,Int.reduceLE,Int.reduceEq,↓reduceIte,Int.reduceNeg,Int.reduceAdd,Int.reduceSub,Int.reduceMul,true_imp_iff,forall_const,Nat.mul_one,Int.reduceToNat,Nat.reducePow,Int.reducePow,Bool.true_and,Bool.false_and,Bool.and_false]
   refine hi.use ?_
   simp (disch:=first|assumption|omega|(simp only [List.length_append,List.length_cons,List.length_nil];omega)) only [go_sem,reduceCtorEq,Nat.reduceEqDiff,Nat.reduceAdd,Nat.reduceSub,Nat.reduceMul,Nat.reduceLeDiff,Int.reduceLT,Int.reduceLE,Int.reduceEq,↓reduceIte,Int.reduceNeg,Int.reduceAdd,Int.reduceSub,Int.reduceMul,true_imp_iff,forall_const,Nat.mul_one,Int.reduceToNat,Nat.reducePow,Int.reducePow,Bool.true_and,Bool.false_and,Bool.and_false,e1,e2,e3,e4,List.take_length]
   exact retC_by (by repeat' (first|exact Drop.refl _|with_reducible refine Drop.off ?_ (by assumption))) (.refl _) ⟨rfl,rfl⟩
  ·have e:Lib.indexByte l c = -1:=by omega
   rw [e] at hi ⊢
   rw [if_neg (by omega)]
   simp (disch:=first|assumption|omega|(simp only [List.length_append,List.length_cons,List.length_nil];omega)) only [go_sem,reduceCtorEq,Nat.reduceEqDiff,Nat.reduceAdd,Nat.reduceSub,Nat.reduceMul,Nat.reduceLeDiff,Int.reduceLT,Int.reduceLE,Int.reduceEq,↓reduceIte,Int.reduceNeg,Int.reduceAdd,Int.reduceSub,Int.reduceMul,true_imp_iff,forall_const,Nat.mul_one,Int.reduceToNat,Nat.reducePow,Int.reducePow,Bool.true_and,Bool.false_and,Bool.and_false]
   refine hi.use ?_
   simp (disch:=first|assumption|omega|(simp only [List.length_append,List.length_cons,List.length_nil];omega)) only [go_sem,reduceCtorEq,Nat.reduceEqDiff,Nat.reduceAdd,Nat.reduceSub,Nat.reduceMul,Nat.reduceLeDiff,Int.reduceLT,Int.reduceLE,Int.reduceEq,↓reduceIte,Int.reduceNeg,Int.reduceAdd,Int.reduceSub,Int.reduceMul,true_imp_iff,forall_const,Nat.mul_one,Int.reduceToNat,Nat.reducePow,Int.reducePow,Bool.true_and,Bool.false_and,Bool.and_false]
   exact retC_by (by repeat' (first|exact Drop.refl _|with_reducible refine Drop.off ?_ (by assumption))) (.refl _) ⟨rfl,rfl⟩
 intro σ
 refine a96 (by simp) ?_
 simp (disch:=first|assumption|omega|(simp only [List.length_append,List.length_cons,List.length_nil];omega)) only [go_sem,reduceCtorEq,Nat.reduceEqDiff,Nat.reduceAdd,Nat.reduceSub,Nat.reduceMul,Nat.reduceLeDiff,Int.reduceLT,Int.reduceLE,Int.reduceEq,↓reduceIte,Int.reduceNeg,Int.reduceAdd,Int.reduceSub,Int.reduceMul,true_imp_iff,forall_const,Nat.mul_one,Int.reduceToNat,Nat.reducePow,Int.reducePow,Bool.true_and,Bool.false_and,Bool.and_false]
 refine h1.use ?_
 simp (disch:=first|assumption|omega|(simp only [List.length_append,List.length_cons,List.length_nil];omega)) only [go_sem,reduceCtorEq,Nat.reduceEqDiff,Nat.reduceAdd,Nat.reduceSub,Nat.reduceMul,Nat.reduceLeDiff,Int.reduceLT,Int.reduceLE,Int.reduceEq,↓reduceIte,Int.reduceNeg,Int.reduceAdd,Int.reduceSub,Int.reduceMul,true_imp_iff,forall_const,Nat.mul_one,Int.reduceToNat,Nat.reducePow,Int.reducePow,Bool.true_and,Bool.false_and,Bool.and_false]
 exact retC_by (by repeat' (first|exact Drop.refl _|with_reducible refine Drop.off ?_ (by assumption))) (.refl _) ⟨rfl,rfl⟩
theorem div64_ok (lo y:Nat) (hl:lo<18446744073709551616) (hy:0<y) (hy2:y<18446744073709551616):Pure Tryz.prog 98 [.int .u64 0,.int .u64 lo,.int .u64 y] (.tuple [.int .u64 ((lo / y:Nat):Int),.int .u64 ((lo % y:Nat):Int)]):=by
 intro σ
 have hy0:(y:Int)≠0:=by omega
 have hy1:¬ (y:Int)<=0:=by omega
 have d1:IntKind.u64.wrap ((lo:Int).tdiv y)=((lo / y:Nat):Int):=by
  have:=Nat.div_le_self lo y
  rw [Int.tdiv_eq_ediv_of_nonneg (by omega),← Int.natCast_ediv,IntKind.wrap_u64]
  generalize lo / y=q at *
  omega
 have d2:(lo:Int).tmod y=((lo % y:Nat):Int):=by
  rw [Int.tmod_eq_emod_of_nonneg (by omega),← Int.natCast_emod]
 refine a98 (by simp) ?_
 simp (disch:=first|assumption|omega|(simp only [List.length_append,List.length_cons,List.length_nil];omega)) only [go_sem,reduceCtorEq,Nat.reduceEqDiff,Nat.reduceAdd,Nat.reduceSub,Nat.reduceMul,Nat.reduceLeDiff,Int.reduceLT,Int.reduceLE,Int.reduceEq,↓reduceIte,Int.reduceNeg,Int.reduceAdd,Int.reduceSub,Int.reduceMul,true_imp_iff,forall_const,Nat.mul_one,Int.reduceToNat,Nat.reducePow,Int.reducePow,Bool.true_and,Bool.false_and,Bool.and_false,hy0,hy1,d1,d2]
 exact retC_by (by repeat' (first|exact Drop.refl _|with_reducible refine Drop.off ?_ (by assumption))) (.refl _) ⟨rfl,rfl⟩
end Go.A
namespace Go.A
open Go.Proofs
def resAV (o:Option Int):AV := .tuple [.int .i64 (o.getD 0),.bool o.isSome]
theorem size_ok (a:Int) (h0 : -9223372036854775808<=a) (h1:a<=9223372036854775807):Pure Tryz.prog 61 [.int .i64 a] (.int .u64 (a.natAbs:Nat)):=by
 intro σ
 refine a61 (by simp) ?_
 by_cases h:a<0
 ·have e:IntKind.u64.wrap (IntKind.i64.wrap (0-a))=((a.natAbs:Nat):Int):=by rw [IntKind.wrap_u64,IntKind.wrap_i64];omega
  simp (disch:=first|assumption|omega|(simp only [List.length_append,List.length_cons,List.length_nil];omega)) only [go_sem,reduceCtorEq,Nat.reduceEqDiff,Nat.reduceAdd,Nat.reduceSub,Nat.reduceMul,Nat.reduceLeDiff,Int.reduceLT,Int.reduceLE,Int.reduceEq,↓reduceIte,Int.reduceNeg,Int.reduceAdd,Int.reduceSub,Int.reduceMul,true_imp_iff,forall_const,Nat.mul_one,Int.reduceToNat,Nat.reducePow,Int.reducePow,Bool.true_and,Bool.false_and,Bool.and_false,h,e]
  exact retC_by (by repeat' (first|exact Drop.refl _|with_reducible refine Drop.off ?_ (by assumption))) (.refl _) ⟨rfl,rfl⟩
 ·have e:IntKind.u64.wrap a=((a.natAbs:Nat):Int):=by rw [IntKind.wrap_u64];omega
  simp (disch:=first|assumption|omega|(simp only [List.length_append,List.length_cons,List.length_nil];omega)) only [go_sem,reduceCtorEq,Nat.reduceEqDiff,Nat.reduceAdd,Nat.reduceSub,Nat.reduceMul,Nat.reduceLeDiff,Int.reduceLT,Int.reduceLE,Int.reduceEq,↓reduceIte,Int.reduceNeg,Int.reduceAdd,Int.reduceSub,Int.reduceMul,true_imp_iff,forall_const,Nat.mul_one,Int.reduceToNat,Nat.reducePow,Int.reducePow,Bool.true_and,Bool.false_and,Bool.and_false,h,e]
  exact retC_by (by repeat' (first|exact Drop.refl _|with_reducible refine Drop.off ?_ (by assumption))) (.refl _) ⟨rfl,rfl⟩
theorem made_ok (m:Bool) (lo:Nat) (h:lo<18446744073709551616):Pure Tryz.prog 62 [.bool m,.int .u64 0,.int .u64 lo] (resAV (madeP m lo)):=by
 intro σ
 refine a62 (by simp) ?_
 unfold madeP
 by_cases hm:lo<=999999999999999999
 ·have g1:¬ (999999999999999999:Int)<lo:=by omega
  have e1:IntKind.i64.wrap (lo:Int)=lo:=by rw [IntKind.wrap_i64];omega
  have e2:IntKind.i64.wrap (-(lo:Int)) = -lo:=by rw [IntKind.wrap_i64];omega
  rw [if_pos hm]
  cases m
  ·simp (disch:=first|assumption|omega|(simp only [List.length_append,List.length_cons,List.length_nil];omega)) only [go_sem,reduceCtorEq,Nat.reduceEqDiff,Nat.reduceAdd,Nat.reduceSub,Nat.reduceMul,Nat.reduceLeDiff,Int.reduceLT,Int.reduceLE,Int.reduceEq,↓reduceIte,Int.reduceNeg,Int.reduceAdd,Int.reduceSub,Int.reduceMul,true_imp_iff,forall_const,Nat.mul_one,Int.reduceToNat,Nat.reducePow,Int.reducePow,Bool.true_and,Bool.false_and,Bool.and_false,g1,e1,e2]
   exact retC_by (by repeat' (first|exact Drop.refl _|with_reducible refine Drop.off ?_ (by assumption))) (.refl _) ⟨rfl,rfl⟩
  ·simp (disch:=first|assumption|omega|(simp only [List.length_append,List.length_cons,List.length_nil];omega)) only [go_sem,reduceCtorEq,Nat.reduceEqDiff,Nat.reduceAdd,Nat.reduceSub,Nat.reduceMul,Nat.reduceLeDiff,Int.reduceLT,Int.reduceLE,Int.reduceEq,↓reduceIte,Int.reduceNeg,Int.reduceAdd,Int.reduceSub,Int.reduceMul,true_imp_iff,forall_const,Nat.mul_one,Int.reduceToNat,Nat.reducePow,Int.reducePow,Bool.true_and,Bool.false_and,Bool.and_false,g1,e1,e2]
   refine retC_by (by repeat' (first|exact Drop.refl _|with_reducible refine Drop.off ?_ (by assumption))) (.refl _) ⟨?_,rfl⟩
   rw [show (0:Int)-lo = -lo by omega]
   rfl
 ·have g1:(999999999999999999:Int)<lo:=by omega
  rw [if_neg hm]
  simp (disch:=first|assumption|omega|(simp only [List.length_append,List.length_cons,List.length_nil];omega)) only [go_sem,reduceCtorEq,Nat.reduceEqDiff,Nat.reduceAdd,Nat.reduceSub,Nat.reduceMul,Nat.reduceLeDiff,Int.reduceLT,Int.reduceLE,Int.reduceEq,↓reduceIte,Int.reduceNeg,Int.reduceAdd,Int.reduceSub,Int.reduceMul,true_imp_iff,forall_const,Nat.mul_one,Int.reduceToNat,Nat.reducePow,Int.reducePow,Bool.true_and,Bool.false_and,Bool.and_false,g1]
  exact retC_by (by repeat' (first|exact Drop.refl _|with_reducible refine Drop.off ?_ (by assumption))) (.refl _) ⟨rfl,rfl⟩
theorem dgood_ok (a:Int):Pure Tryz.prog 72 [.int .i64 a] (.bool (decide (a.natAbs<=999999999999999999))):=by
 intro σ
 refine a72 (by simp) ?_
 repeat' (first|(simp (disch:=first|assumption|omega|(simp only [List.length_append,List.length_cons,List.length_nil];omega)) only [go_sem,reduceCtorEq,Nat.reduceEqDiff,Nat.reduceAdd,Nat.reduceSub,Nat.reduceMul,Nat.reduceLeDiff,Int.reduceLT,Int.reduceLE,Int.reduceEq,↓reduceIte,Int.reduceNeg,Int.reduceAdd,Int.reduceSub,Int.reduceMul,true_imp_iff,forall_const,Nat.mul_one,Int.reduceToNat,Nat.reducePow,Int.reducePow,Bool.true_and,Bool.false_and,Bool.and_false])|with_reducible refine gC_d (fun h=>?_) (fun h=>?_)|with_reducible refine gC_dn (fun h=>?_) (fun h=>?_)|with_reducible refine condC_d (fun h=>?_) (fun h=>?_)|with_reducible refine condC_n (fun h=>?_) (fun h=>?_)|with_reducible refine condC_b (fun h=>?_) (fun h=>?_)|with_reducible refine boxC_by ?_ fun b hb=>?_)
 all_goals (refine retC_by (by repeat' (first|exact Drop.refl _|with_reducible refine Drop.off ?_ (by assumption))) (.refl _) ⟨?_,rfl⟩)
 ·have e:decide (a<=999999999999999999)=decide (a.natAbs<=999999999999999999):=decide_eq_decide.2 (by omega)
  rw [<-e];rfl
 ·rfl
theorem abs_ok (a:Int) (h0 : -9223372036854775808<a) (h1:a<=9223372036854775807):Pure Tryz.prog 18 [.int .i64 a] (.int .i64 (a.natAbs:Nat)):=by
 intro σ
 refine a18 (by simp) ?_
 by_cases h:a<0
 ·have e:0-a=((a.natAbs:Nat):Int):=by omega
  simp (disch:=first|assumption|omega|(simp only [List.length_append,List.length_cons,List.length_nil];omega)) only [go_sem,reduceCtorEq,Nat.reduceEqDiff,Nat.reduceAdd,Nat.reduceSub,Nat.reduceMul,Nat.reduceLeDiff,Int.reduceLT,Int.reduceLE,Int.reduceEq,↓reduceIte,Int.reduceNeg,Int.reduceAdd,Int.reduceSub,Int.reduceMul,true_imp_iff,forall_const,Nat.mul_one,Int.reduceToNat,Nat.reducePow,Int.reducePow,Bool.true_and,Bool.false_and,Bool.and_false,h,e]
  exact retC_by (by repeat' (first|exact Drop.refl _|with_reducible refine Drop.off ?_ (by assumption))) (.refl _) ⟨rfl,rfl⟩
 ·have e:a=((a.natAbs:Nat):Int):=by omega
  simp (disch:=first|assumption|omega|(simp only [List.length_append,List.length_cons,List.length_nil];omega)) only [go_sem,reduceCtorEq,Nat.reduceEqDiff,Nat.reduceAdd,Nat.reduceSub,Nat.reduceMul,Nat.reduceLeDiff,Int.reduceLT,Int.reduceLE,Int.reduceEq,↓reduceIte,Int.reduceNeg,Int.reduceAdd,Int.reduceSub,Int.reduceMul,true_imp_iff,forall_const,Nat.mul_one,Int.reduceToNat,Nat.reducePow,Int.reducePow,Bool.true_and,Bool.false_and,Bool.and_false,h]
  exact retC_by (by repeat' (first|exact Drop.refl _|with_reducible refine Drop.off ?_ (by assumption))) (.refl _) ⟨by rw [<-e];rfl,rfl⟩
def tensL:List Int := [1,10,100,1000,10000,100000,1000000,10000000,100000000,1000000000,10000000000,100000000000,1000000000000,10000000000000,100000000000000,1000000000000000,10000000000000000,100000000000000000,1000000000000000000]
def Tens (σ:ASt):Prop:=σ 0=some (.fix [.sl .shr (tensL.map (AV.int .u64))])
theorem tens_at {k:Nat} (h:k<19):(tensL.map (AV.int .u64))[k]? = some (.int .u64 ((10 ^ k:Nat):Int)):=by
 have key:∀ k:Nat,k<19->(tensL.map (AV.int .u64))[k]? = some (.int .u64 ((10 ^ k:Nat):Int)):=by
  intro k hk
  have:k∈List.range 19:=List.mem_range.2 hk
  rw [List.getElem?_map]
  have h2:∀ k∈List.range 19,tensL[k]? = some ((10 ^ k:Nat):Int):=by decide +kernel
  rw [h2 k this]
  rfl
 exact key k h
theorem unit_ok {σ:ASt} (hT:Tens σ) (p:Int) (h0 : -14<=p) (h1:p<4):ACalls Tryz.prog 59 [.int .i64 p] σ fun v σ'=>v = .tuple [.int .u64 ((10 ^ (4-p).toNat:Nat):Int),.bool true]/\σ'=σ:=by
 unfold Tens at hT
 refine a59 (by simp) ?_
 have g1:¬ (4:Int)<=p:=by omega
 have g2:¬ p < -14:=by omega
 have e1:IntKind.i64.wrap (4-p)=4-p:=by rw [IntKind.wrap_i64];omega
 have e2:=tens_at (k:=(4-p).toNat) (by omega)
 have e3:(0:Int)<=4-p:=by omega
 have e4:4-p<19:=by omega
 simp (disch:=first|assumption|omega|(simp only [List.length_append,List.length_cons,List.length_nil];omega)) only [go_sem,reduceCtorEq,Nat.reduceEqDiff,Nat.reduceAdd,Nat.reduceSub,Nat.reduceMul,Nat.reduceLeDiff,Int.reduceLT,Int.reduceLE,Int.reduceEq,↓reduceIte,Int.reduceNeg,Int.reduceAdd,Int.reduceSub,Int.reduceMul,true_imp_iff,forall_const,Nat.mul_one,Int.reduceToNat,Nat.reducePow,Int.reducePow,Bool.true_and,Bool.false_and,Bool.and_false,g1,g2,e1,e2,e3,e4,hT]
 exact retC_by (by repeat' (first|exact Drop.refl _|with_reducible refine Drop.off ?_ (by assumption))) (.refl _) ⟨rfl,rfl⟩
end Go.A
namespace Go.A
open Go.Proofs
theorem round_ok {σ:ASt} (hT:Tens σ) {a p:Int} (ha:a.natAbs<=999999999999999999) (h0 : -14<=p) (h1:p<4):ACalls Tryz.prog 24 [.int .i64 a,.int .i64 p] σ fun v σ'=>v=resAV (roundP a (10 ^ (4-p).toNat))/\σ'=σ:=by
 have hU:=unit_ok hT p h0 h1
 have hu0:0<10 ^ (4-p).toNat:=Nat.pow_pos (by omega)
 have hu1:10 ^ (4-p).toNat<=10 ^ 18:=Nat.pow_le_pow_right (by omega) (by omega)
 generalize 10 ^ (4-p).toNat=u at hU hu0 hu1
 have g1:¬ p < -14:=by omega
 have hS:=size_ok a (by omega) (by omega)
 unfold roundP
 have hz:a.natAbs % u<u:=Nat.mod_lt _ hu0
 have hle:a.natAbs % u<=a.natAbs:=Nat.mod_le _ _
 have hd:((a.natAbs:Nat):Int).tmod (u:Int)=((a.natAbs % u:Nat):Int):=by rw [Int.tmod_eq_emod_of_nonneg (by omega),← Int.natCast_emod]
 obtain ⟨N,hN⟩:∃ N,rndN a.natAbs u=N:=⟨_,rfl⟩
 have hN2:=hN
 unfold rndN at hN2
 rw [hN]
 obtain ⟨s,hs⟩:∃ s,a.natAbs=s:=⟨_,rfl⟩
 obtain ⟨r,hr⟩:∃ r,s % u=r:=⟨_,rfl⟩
 rw [hs] at hS hz hle hd hN2
 rw [hr] at hz hle hd hN2
 have hs18:s<=999999999999999999:=by omega
 have hu18:u<=1000000000000000000:=by omega
 have hune:(u:Int)≠0:=by omega
 have e1:(s:Int)-r=((s-r:Nat):Int):=by omega
 clear hN hs hr
 refine a24 (by simp) ?_
 simp (disch:=first|assumption|omega|(simp only [List.length_append,List.length_cons,List.length_nil];omega)) only [go_sem,reduceCtorEq,Nat.reduceEqDiff,Nat.reduceAdd,Nat.reduceSub,Nat.reduceMul,Nat.reduceLeDiff,Int.reduceLT,Int.reduceLE,Int.reduceEq,↓reduceIte,Int.reduceNeg,Int.reduceAdd,Int.reduceSub,Int.reduceMul,true_imp_iff,forall_const,Nat.mul_one,Int.reduceToNat,Nat.reducePow,Int.reducePow,Bool.true_and,Bool.false_and,Bool.and_false,g1]
 refine hU.mono ?_
 rintro v σ' ⟨rfl,rfl⟩
 simp (disch:=first|assumption|omega|(simp only [List.length_append,List.length_cons,List.length_nil];omega)) only [go_sem,reduceCtorEq,Nat.reduceEqDiff,Nat.reduceAdd,Nat.reduceSub,Nat.reduceMul,Nat.reduceLeDiff,Int.reduceLT,Int.reduceLE,Int.reduceEq,↓reduceIte,Int.reduceNeg,Int.reduceAdd,Int.reduceSub,Int.reduceMul,true_imp_iff,forall_const,Nat.mul_one,Int.reduceToNat,Nat.reducePow,Int.reducePow,Bool.true_and,Bool.false_and,Bool.and_false]
 refine hS.use ?_
 simp (disch:=first|assumption|omega|(simp only [List.length_append,List.length_cons,List.length_nil];omega)) only [go_sem,reduceCtorEq,Nat.reduceEqDiff,Nat.reduceAdd,Nat.reduceSub,Nat.reduceMul,Nat.reduceLeDiff,Int.reduceLT,Int.reduceLE,Int.reduceEq,↓reduceIte,Int.reduceNeg,Int.reduceAdd,Int.reduceSub,Int.reduceMul,true_imp_iff,forall_const,Nat.mul_one,Int.reduceToNat,Nat.reducePow,Int.reducePow,Bool.true_and,Bool.false_and,Bool.and_false,hune,hd]
 by_cases hc:u-r<=r
 ·have g2:(u:Int)-r<=r:=by omega
  rw [if_pos hc] at hN2
  have e2:(s:Int)-r+u=N:=by omega
  simp (disch:=first|assumption|omega|(simp only [List.length_append,List.length_cons,List.length_nil];omega)) only [go_sem,reduceCtorEq,Nat.reduceEqDiff,Nat.reduceAdd,Nat.reduceSub,Nat.reduceMul,Nat.reduceLeDiff,Int.reduceLT,Int.reduceLE,Int.reduceEq,↓reduceIte,Int.reduceNeg,Int.reduceAdd,Int.reduceSub,Int.reduceMul,true_imp_iff,forall_const,Nat.mul_one,Int.reduceToNat,Nat.reducePow,Int.reducePow,Bool.true_and,Bool.false_and,Bool.and_false,g2,e2]
  refine (made_ok (decide (a<0)) N (by omega)).use ?_
  simp only [resAV]
  simp (disch:=first|assumption|omega|(simp only [List.length_append,List.length_cons,List.length_nil];omega)) only [go_sem,reduceCtorEq,Nat.reduceEqDiff,Nat.reduceAdd,Nat.reduceSub,Nat.reduceMul,Nat.reduceLeDiff,Int.reduceLT,Int.reduceLE,Int.reduceEq,↓reduceIte,Int.reduceNeg,Int.reduceAdd,Int.reduceSub,Int.reduceMul,true_imp_iff,forall_const,Nat.mul_one,Int.reduceToNat,Nat.reducePow,Int.reducePow,Bool.true_and,Bool.false_and,Bool.and_false]
  exact retC_by (by repeat' (first|exact Drop.refl _|with_reducible refine Drop.off ?_ (by assumption))) (.refl _) ⟨rfl,rfl⟩
 ·have g2:¬ (u:Int)-r<=r:=by omega
  rw [if_neg hc] at hN2
  have e2:(s:Int)-r=N:=by omega
  simp (disch:=first|assumption|omega|(simp only [List.length_append,List.length_cons,List.length_nil];omega)) only [go_sem,reduceCtorEq,Nat.reduceEqDiff,Nat.reduceAdd,Nat.reduceSub,Nat.reduceMul,Nat.reduceLeDiff,Int.reduceLT,Int.reduceLE,Int.reduceEq,↓reduceIte,Int.reduceNeg,Int.reduceAdd,Int.reduceSub,Int.reduceMul,true_imp_iff,forall_const,Nat.mul_one,Int.reduceToNat,Nat.reducePow,Int.reducePow,Bool.true_and,Bool.false_and,Bool.and_false,g2,e2]
  refine (made_ok (decide (a<0)) N (by omega)).use ?_
  simp only [resAV]
  simp (disch:=first|assumption|omega|(simp only [List.length_append,List.length_cons,List.length_nil];omega)) only [go_sem,reduceCtorEq,Nat.reduceEqDiff,Nat.reduceAdd,Nat.reduceSub,Nat.reduceMul,Nat.reduceLeDiff,Int.reduceLT,Int.reduceLE,Int.reduceEq,↓reduceIte,Int.reduceNeg,Int.reduceAdd,Int.reduceSub,Int.reduceMul,true_imp_iff,forall_const,Nat.mul_one,Int.reduceToNat,Nat.reducePow,Int.reducePow,Bool.true_and,Bool.false_and,Bool.and_false]
  exact retC_by (by repeat' (first|exact Drop.refl _|with_reducible refine Drop.off ?_ (by assumption))) (.refl _) ⟨rfl,rfl⟩
theorem mod_ok {a b:Int} (ha:a.natAbs<=999999999999999999) (hb:0<b) (hb2:b<=999999999999999999):Pure Tryz.prog 29 [.int .i64 a,.int .i64 b] (.tuple [.int .i64 (a % b),.bool true]):=by
 intro σ
 have hl:=emod_left (a:=a) hb
 have hlt:=Int.tmod_lt_of_pos a hb
 have hgt : -b<a.tmod b:=by
  have:=Int.tmod_lt_of_pos (-a) hb
  rw [Int.neg_tmod] at this
  omega
 have g0:b≠0:=by omega
 have g1:¬ b<0:=by omega
 have g9:a.natAbs<=9223372036854775807:=by omega
 have hq:decide (b<0)=false:=by simp;omega
 rw [hq] at hl
 generalize a % b=R at *
 generalize hm:a.tmod b=m at *
 refine a29 (by simp) ?_
 by_cases hm0:m=0
 ·subst hm0
  rw [if_neg (by simp)] at hl
  simp (disch:=first|assumption|omega|(simp only [List.length_append,List.length_cons,List.length_nil];omega)) only [go_sem,reduceCtorEq,Nat.reduceEqDiff,Nat.reduceAdd,Nat.reduceSub,Nat.reduceMul,Nat.reduceLeDiff,Int.reduceLT,Int.reduceLE,Int.reduceEq,↓reduceIte,Int.reduceNeg,Int.reduceAdd,Int.reduceSub,Int.reduceMul,true_imp_iff,forall_const,Nat.mul_one,Int.reduceToNat,Nat.reducePow,Int.reducePow,Bool.true_and,Bool.false_and,Bool.and_false,g0,g1,hm]
  rw [<-hl]
  exact retC_by (by repeat' (first|exact Drop.refl _|with_reducible refine Drop.off ?_ (by assumption))) (.refl _) ⟨rfl,rfl⟩
 ·by_cases hn:m<0
  ·rw [if_pos ⟨hm0,by simp;exact hn⟩] at hl
   simp (disch:=first|assumption|omega|(simp only [List.length_append,List.length_cons,List.length_nil];omega)) only [go_sem,reduceCtorEq,Nat.reduceEqDiff,Nat.reduceAdd,Nat.reduceSub,Nat.reduceMul,Nat.reduceLeDiff,Int.reduceLT,Int.reduceLE,Int.reduceEq,↓reduceIte,Int.reduceNeg,Int.reduceAdd,Int.reduceSub,Int.reduceMul,true_imp_iff,forall_const,Nat.mul_one,Int.reduceToNat,Nat.reducePow,Int.reducePow,Bool.true_and,Bool.false_and,Bool.and_false,g0,g1,hm,hm0,hn]
   rw [<-hl]
   exact retC_by (by repeat' (first|exact Drop.refl _|with_reducible refine Drop.off ?_ (by assumption))) (.refl _) ⟨rfl,rfl⟩
  ·rw [if_neg (by rintro ⟨_,h⟩;simp at h;omega)] at hl
   simp (disch:=first|assumption|omega|(simp only [List.length_append,List.length_cons,List.length_nil];omega)) only [go_sem,reduceCtorEq,Nat.reduceEqDiff,Nat.reduceAdd,Nat.reduceSub,Nat.reduceMul,Nat.reduceLeDiff,Int.reduceLT,Int.reduceLE,Int.reduceEq,↓reduceIte,Int.reduceNeg,Int.reduceAdd,Int.reduceSub,Int.reduceMul,true_imp_iff,forall_const,Nat.mul_one,Int.reduceToNat,Nat.reducePow,Int.reducePow,Bool.true_and,Bool.false_and,Bool.and_false,g0,g1,hm,hm0,hn]
   rw [<-hl]
   exact retC_by (by repeat' (first|exact Drop.refl _|with_reducible refine Drop.off ?_ (by assumption))) (.refl _) ⟨rfl,rfl⟩
end Go.A
namespace Go.A
open Go.Proofs
theorem prefix_minus (s:List UInt8):Lib.hasPrefix s [45]=decide (s.head? = some 45):=by
 unfold Lib.hasPrefix
 cases s with
 | nil=>rfl
 | cons c l=>
   simp only [List.isPrefixOf,Bool.and_true,List.head?_cons,Option.some.injEq]
   by_cases h:c=45
   ·subst h;rfl
   ·have h1:(45==c)=false:=by simpa using fun e=>h e.symm
    rw [h1];simp [h]
theorem trim_minus (s:List UInt8):Lib.trimPrefix s [45]=if s.head? = some 45 then s.drop 1 else s:=by
 unfold Lib.trimPrefix
 rw [prefix_minus]
 by_cases h:s.head? = some 45
 ·simp [h]
 ·simp [h]
theorem cut_len (l:List UInt8) (c:UInt8):(Lib.cut l [c]).1.length+(Lib.cut l [c]).2.1.length<=l.length:=by
 unfold Lib.cut
 split
 ·have:=Lib.index_room l [c] (by assumption)
  simp at this ⊢
  omega
 ·simp
set_option maxHeartbeats 1000000 in
theorem dparse_ok (s:List UInt8) (hs:s.length<=100000):Pure Tryz.prog 88 [.str s] (resAV (parseD s)):=by
 intro σ
 have hP:=cutPrefix_ok s [45]
 rw [prefix_minus,trim_minus] at hP
 obtain ⟨R,hR⟩:∃ R,parseD s=R:=⟨_,rfl⟩
 rw [hR]
 unfold parseD at hR
 dsimp only at hR
 generalize hm:decide (s.head? = some 45)=minus at *
 have hbl:(if s.head? = some 45 then s.drop 1 else s).length<=100000:=by
  split
  ·rw [List.length_drop];omega
  ·exact hs
 generalize (if s.head? = some 45 then s.drop 1 else s)=body at *
 have hC:=cutc_ok body 46 (by omega)
 have hCl:=cut_len body 46
 have hnf:(Lib.cut body [46]).2.2=false->(Lib.cut body [46]).2.1 = []:=by
  unfold Lib.cut
  split<;>simp
 generalize (Lib.cut body [46]).1=whole at *
 generalize (Lib.cut body [46]).2.1=part at *
 generalize (Lib.cut body [46]).2.2=dot at *
 unfold parseQ at hR
 obtain ⟨F,hF⟩:∃ F,F=ACode.wp Tryz.prog c88_32:=⟨_,rfl⟩
 have fin:∀ (a:AFr),part.length<=4->(accP 0 (whole++part++List.replicate (4-part.length) 48)).bind (madeP minus)=R->(a 5 = .bool minus/\a 6 = .str whole/\a 7 = .str part)->F (RetQ [.t 2,.t 3] fun v σ'=>v=resAV R/\σ'=σ) a σ:=by
  intro a hp4 hacc hf
  rw [hF]
  have hl2:whole.length+part.length<=9223372036854775807:=by omega
  have g4:(part.length:Int)<=4:=by omega
  have e0:([48,48,48,48]:List UInt8).drop part.length=List.replicate (4-part.length) 48:=by
   have:part.length=0\/part.length=1\/part.length=2\/part.length=3\/part.length=4:=by omega
   rcases this with h|h|h|h|h<;>rw [h]<;>rfl
  have e1:binS .add (whole++part) (List.replicate (4-part.length) 48)=some (.str (whole++part++List.replicate (4-part.length) 48)):=binS_add (by simp;omega)
  obtain ⟨M,hM⟩:∃ M,whole++part++List.replicate (4-part.length) 48=M:=⟨_,rfl⟩
  rw [hM] at hacc e1
  have hMl:M.length<=1000000:=by rw [<-hM];simp;omega
  simp (disch:=first|assumption|omega|(simp only [List.length_append,List.length_cons,List.length_nil];omega)) only [go_sem,reduceCtorEq,Nat.reduceEqDiff,Nat.reduceAdd,Nat.reduceSub,Nat.reduceMul,Nat.reduceLeDiff,Int.reduceLT,Int.reduceLE,Int.reduceEq,↓reduceIte,Int.reduceNeg,Int.reduceAdd,Int.reduceSub,Int.reduceMul,true_imp_iff,forall_const,Nat.mul_one,Int.reduceToNat,Nat.reducePow,Int.reducePow,Bool.true_and,Bool.false_and,Bool.and_false,hf,hl2,g4,e0,e1]
  refine s2b_shr ?_
  simp (disch:=first|assumption|omega|(simp only [List.length_append,List.length_cons,List.length_nil];omega)) only [go_sem,reduceCtorEq,Nat.reduceEqDiff,Nat.reduceAdd,Nat.reduceSub,Nat.reduceMul,Nat.reduceLeDiff,Int.reduceLT,Int.reduceLE,Int.reduceEq,↓reduceIte,Int.reduceNeg,Int.reduceAdd,Int.reduceSub,Int.reduceMul,true_imp_iff,forall_const,Nat.mul_one,Int.reduceToNat,Nat.reducePow,Int.reducePow,Bool.true_and,Bool.false_and,Bool.and_false,hf]
  refine wp_loop_on (fun (i:Nat) a σ'=>i<=M.length/\(∃ n:Nat,n<=999999999999999999/\accP 0 M=accP n (M.drop i)/\a 9 = .int .u64 n)/\(a 5 = .bool minus/\a 44 = .sl .shr (bytesAV M)/\a 45 = .int .i64 M.length/\a 46 = .int .i64 i)/\σ'=σ) (fun i=>M.length-i) 0 ⟨Nat.zero_le _,⟨0,by omega,rfl,?_⟩,?_,rfl⟩ ?_
  ·simp (disch:=first|assumption|omega|(simp only [List.length_append,List.length_cons,List.length_nil];omega)) only [go_sem,reduceCtorEq,Nat.reduceEqDiff,Nat.reduceAdd,Nat.reduceSub,Nat.reduceMul,Nat.reduceLeDiff,Int.reduceLT,Int.reduceLE,Int.reduceEq,↓reduceIte,Int.reduceNeg,Int.reduceAdd,Int.reduceSub,Int.reduceMul,true_imp_iff,forall_const,Nat.mul_one,Int.reduceToNat,Nat.reducePow,Int.reducePow,Bool.true_and,Bool.false_and,Bool.and_false,hf]
  ·simp (disch:=first|assumption|omega|(simp only [List.length_append,List.length_cons,List.length_nil];omega)) only [go_sem,reduceCtorEq,Nat.reduceEqDiff,Nat.reduceAdd,Nat.reduceSub,Nat.reduceMul,Nat.reduceLeDiff,Int.reduceLT,Int.reduceLE,Int.reduceEq,↓reduceIte,Int.reduceNeg,Int.reduceAdd,Int.reduceSub,Int.reduceMul,true_imp_iff,forall_const,Nat.mul_one,Int.reduceToNat,Nat.reducePow,Int.reducePow,Bool.true_and,Bool.false_and,Bool.and_false,hf]
  rintro i a σ1 ⟨hi,⟨n,hn,hac,hf9⟩,hf,rfl⟩
  rw [hac] at hacc
  by_cases hlt:i<M.length
  ·have hidx : M[i]? = some (M[i]'hlt) := List.getElem?_eq_getElem hlt
   rw [List.drop_eq_getElem_cons hlt] at hac hacc
   obtain ⟨c, hc⟩ : ∃ c, M[i]'hlt = c := ⟨_, rfl⟩
   rw [hc] at hidx hac hacc
   have hlt':(i:Int)<M.length:=by omega
   have hcb:c.toNat<256:=c.toNat_lt
   rw [accP] at hac hacc
   by_cases h1:c.toNat<48
   ·have h1':(c.toNat:Int)<48:=by omega
    rw [if_pos (by omega)] at hacc
    subst hacc
    simp (disch:=first|assumption|omega|(simp only [List.length_append,List.length_cons,List.length_nil];omega)) only [go_sem,reduceCtorEq,Nat.reduceEqDiff,Nat.reduceAdd,Nat.reduceSub,Nat.reduceMul,Nat.reduceLeDiff,Int.reduceLT,Int.reduceLE,Int.reduceEq,↓reduceIte,Int.reduceNeg,Int.reduceAdd,Int.reduceSub,Int.reduceMul,true_imp_iff,forall_const,Nat.mul_one,Int.reduceToNat,Nat.reducePow,Int.reducePow,Bool.true_and,Bool.false_and,Bool.and_false,hf,hf9,hlt',hidx,h1']
    exact retC_by (by repeat' (first|exact Drop.refl _|with_reducible refine Drop.off ?_ (by assumption))) (.refl _) ⟨rfl,rfl⟩
   have h1':¬ (c.toNat:Int)<48:=by omega
   by_cases h2:57<c.toNat
   ·have h2':(57:Int)<c.toNat:=by omega
    rw [if_pos (by omega)] at hacc
    subst hacc
    simp (disch:=first|assumption|omega|(simp only [List.length_append,List.length_cons,List.length_nil];omega)) only [go_sem,reduceCtorEq,Nat.reduceEqDiff,Nat.reduceAdd,Nat.reduceSub,Nat.reduceMul,Nat.reduceLeDiff,Int.reduceLT,Int.reduceLE,Int.reduceEq,↓reduceIte,Int.reduceNeg,Int.reduceAdd,Int.reduceSub,Int.reduceMul,true_imp_iff,forall_const,Nat.mul_one,Int.reduceToNat,Nat.reducePow,Int.reducePow,Bool.true_and,Bool.false_and,Bool.and_false,hf,hf9,hlt',hidx,h1',h2']
    exact retC_by (by repeat' (first|exact Drop.refl _|with_reducible refine Drop.off ?_ (by assumption))) (.refl _) ⟨rfl,rfl⟩
   have h2':¬ (57:Int)<c.toNat:=by omega
   by_cases h3:99999999999999999<n
   ·have h3':(99999999999999999:Int)<n:=by omega
    rw [if_pos (by omega)] at hacc
    subst hacc
    simp (disch:=first|assumption|omega|(simp only [List.length_append,List.length_cons,List.length_nil];omega)) only [go_sem,reduceCtorEq,Nat.reduceEqDiff,Nat.reduceAdd,Nat.reduceSub,Nat.reduceMul,Nat.reduceLeDiff,Int.reduceLT,Int.reduceLE,Int.reduceEq,↓reduceIte,Int.reduceNeg,Int.reduceAdd,Int.reduceSub,Int.reduceMul,true_imp_iff,forall_const,Nat.mul_one,Int.reduceToNat,Nat.reducePow,Int.reducePow,Bool.true_and,Bool.false_and,Bool.and_false,hf,hf9,hlt',hidx,h1',h2',h3']
    exact retC_by (by repeat' (first|exact Drop.refl _|with_reducible refine Drop.off ?_ (by assumption))) (.refl _) ⟨rfl,rfl⟩
   have h3':¬ (99999999999999999:Int)<n:=by omega
   rw [if_neg (by omega)] at hac hacc
   obtain ⟨n2,hn2⟩:∃ n2:Nat,10*n+(c.toNat-48)=n2:=⟨_,rfl⟩
   rw [hn2] at hac hacc
   have e2:10*(n:Int)+((c.toNat:Int)-48)=n2:=by omega
   simp (disch:=first|assumption|omega|(simp only [List.length_append,List.length_cons,List.length_nil];omega)) only [go_sem,reduceCtorEq,Nat.reduceEqDiff,Nat.reduceAdd,Nat.reduceSub,Nat.reduceMul,Nat.reduceLeDiff,Int.reduceLT,Int.reduceLE,Int.reduceEq,↓reduceIte,Int.reduceNeg,Int.reduceAdd,Int.reduceSub,Int.reduceMul,true_imp_iff,forall_const,Nat.mul_one,Int.reduceToNat,Nat.reducePow,Int.reducePow,Bool.true_and,Bool.false_and,Bool.and_false,hf,hf9,hlt',hidx,h1',h2',h3',e2]
   exact ⟨i+1,by omega,by omega,⟨n2,by omega,hac,rfl⟩,rfl⟩
  ·have hlt':¬ (i:Int)<M.length:=by omega
   rw [List.drop_eq_nil_of_le (by omega),accP,Option.bind_some] at hacc
   subst hacc
   have hMd:=made_ok minus n (by omega)
   simp (disch:=first|assumption|omega|(simp only [List.length_append,List.length_cons,List.length_nil];omega)) only [go_sem,reduceCtorEq,Nat.reduceEqDiff,Nat.reduceAdd,Nat.reduceSub,Nat.reduceMul,Nat.reduceLeDiff,Int.reduceLT,Int.reduceLE,Int.reduceEq,↓reduceIte,Int.reduceNeg,Int.reduceAdd,Int.reduceSub,Int.reduceMul,true_imp_iff,forall_const,Nat.mul_one,Int.reduceToNat,Nat.reducePow,Int.reducePow,Bool.true_and,Bool.false_and,Bool.and_false,hf,hf9,hlt']
   refine hMd.use ?_
   simp only [resAV]
   simp (disch:=first|assumption|omega|(simp only [List.length_append,List.length_cons,List.length_nil];omega)) only [go_sem,reduceCtorEq,Nat.reduceEqDiff,Nat.reduceAdd,Nat.reduceSub,Nat.reduceMul,Nat.reduceLeDiff,Int.reduceLT,Int.reduceLE,Int.reduceEq,↓reduceIte,Int.reduceNeg,Int.reduceAdd,Int.reduceSub,Int.reduceMul,true_imp_iff,forall_const,Nat.mul_one,Int.reduceToNat,Nat.reducePow,Int.reducePow,Bool.true_and,Bool.false_and,Bool.and_false]
   exact retC_by (by repeat' (first|exact Drop.refl _|with_reducible refine Drop.off ?_ (by assumption))) (.refl _) ⟨rfl,rfl⟩
 refine a88 (by simp) ?_
 simp (disch:=first|assumption|omega|(simp only [List.length_append,List.length_cons,List.length_nil];omega)) only [go_sem,reduceCtorEq,Nat.reduceEqDiff,Nat.reduceAdd,Nat.reduceSub,Nat.reduceMul,Nat.reduceLeDiff,Int.reduceLT,Int.reduceLE,Int.reduceEq,↓reduceIte,Int.reduceNeg,Int.reduceAdd,Int.reduceSub,Int.reduceMul,true_imp_iff,forall_const,Nat.mul_one,Int.reduceToNat,Nat.reducePow,Int.reducePow,Bool.true_and,Bool.false_and,Bool.and_false,←hF]
 refine hP.use ?_
 simp (disch:=first|assumption|omega|(simp only [List.length_append,List.length_cons,List.length_nil];omega)) only [go_sem,reduceCtorEq,Nat.reduceEqDiff,Nat.reduceAdd,Nat.reduceSub,Nat.reduceMul,Nat.reduceLeDiff,Int.reduceLT,Int.reduceLE,Int.reduceEq,↓reduceIte,Int.reduceNeg,Int.reduceAdd,Int.reduceSub,Int.reduceMul,true_imp_iff,forall_const,Nat.mul_one,Int.reduceToNat,Nat.reducePow,Int.reducePow,Bool.true_and,Bool.false_and,Bool.and_false,←hF]
 refine hC.use ?_
 by_cases hw:whole = []
 ·subst hw
  rw [if_pos (.inl rfl)] at hR
  subst hR
  simp (disch:=first|assumption|omega|(simp only [List.length_append,List.length_cons,List.length_nil];omega)) only [go_sem,reduceCtorEq,Nat.reduceEqDiff,Nat.reduceAdd,Nat.reduceSub,Nat.reduceMul,Nat.reduceLeDiff,Int.reduceLT,Int.reduceLE,Int.reduceEq,↓reduceIte,Int.reduceNeg,Int.reduceAdd,Int.reduceSub,Int.reduceMul,true_imp_iff,forall_const,Nat.mul_one,Int.reduceToNat,Nat.reducePow,Int.reducePow,Bool.true_and,Bool.false_and,Bool.and_false,←hF]
  exact retC_by (by repeat' (first|exact Drop.refl _|with_reducible refine Drop.off ?_ (by assumption))) (.refl _) ⟨rfl,rfl⟩
 cases dot with
 | false=>
   have hp:=hnf rfl
   subst hp
   rw [if_neg (by rintro (h|⟨h,_⟩)<;>contradiction)] at hR
   simp (disch:=first|assumption|omega|(simp only [List.length_append,List.length_cons,List.length_nil];omega)) only [go_sem,reduceCtorEq,Nat.reduceEqDiff,Nat.reduceAdd,Nat.reduceSub,Nat.reduceMul,Nat.reduceLeDiff,Int.reduceLT,Int.reduceLE,Int.reduceEq,↓reduceIte,Int.reduceNeg,Int.reduceAdd,Int.reduceSub,Int.reduceMul,true_imp_iff,forall_const,Nat.mul_one,Int.reduceToNat,Nat.reducePow,Int.reducePow,Bool.true_and,Bool.false_and,Bool.and_false,hw,←hF]
   refine fin _ (by simp) hR ?_
   simp (disch:=first|assumption|omega|(simp only [List.length_append,List.length_cons,List.length_nil];omega)) only [go_sem,reduceCtorEq,Nat.reduceEqDiff,Nat.reduceAdd,Nat.reduceSub,Nat.reduceMul,Nat.reduceLeDiff,Int.reduceLT,Int.reduceLE,Int.reduceEq,↓reduceIte,Int.reduceNeg,Int.reduceAdd,Int.reduceSub,Int.reduceMul,true_imp_iff,forall_const,Nat.mul_one,Int.reduceToNat,Nat.reducePow,Int.reducePow,Bool.true_and,Bool.false_and,Bool.and_false]
 | true=>
   by_cases hp:part = []
   ·subst hp
    rw [if_pos (.inr ⟨rfl,.inl rfl⟩)] at hR
    subst hR
    simp (disch:=first|assumption|omega|(simp only [List.length_append,List.length_cons,List.length_nil];omega)) only [go_sem,reduceCtorEq,Nat.reduceEqDiff,Nat.reduceAdd,Nat.reduceSub,Nat.reduceMul,Nat.reduceLeDiff,Int.reduceLT,Int.reduceLE,Int.reduceEq,↓reduceIte,Int.reduceNeg,Int.reduceAdd,Int.reduceSub,Int.reduceMul,true_imp_iff,forall_const,Nat.mul_one,Int.reduceToNat,Nat.reducePow,Int.reducePow,Bool.true_and,Bool.false_and,Bool.and_false,hw,←hF]
    exact retC_by (by repeat' (first|exact Drop.refl _|with_reducible refine Drop.off ?_ (by assumption))) (.refl _) ⟨rfl,rfl⟩
   by_cases h4:4<part.length
   ·have h4':(4:Int)<part.length:=by omega
    rw [if_pos (.inr ⟨rfl,.inr h4⟩)] at hR
    subst hR
    simp (disch:=first|assumption|omega|(simp only [List.length_append,List.length_cons,List.length_nil];omega)) only [go_sem,reduceCtorEq,Nat.reduceEqDiff,Nat.reduceAdd,Nat.reduceSub,Nat.reduceMul,Nat.reduceLeDiff,Int.reduceLT,Int.reduceLE,Int.reduceEq,↓reduceIte,Int.reduceNeg,Int.reduceAdd,Int.reduceSub,Int.reduceMul,true_imp_iff,forall_const,Nat.mul_one,Int.reduceToNat,Nat.reducePow,Int.reducePow,Bool.true_and,Bool.false_and,Bool.and_false,hw,hp,h4',←hF]
    exact retC_by (by repeat' (first|exact Drop.refl _|with_reducible refine Drop.off ?_ (by assumption))) (.refl _) ⟨rfl,rfl⟩
   ·have h4':¬ (4:Int)<part.length:=by omega
    rw [if_neg (by rintro (h|⟨_,h|h⟩)<;>contradiction)] at hR
    simp (disch:=first|assumption|omega|(simp only [List.length_append,List.length_cons,List.length_nil];omega)) only [go_sem,reduceCtorEq,Nat.reduceEqDiff,Nat.reduceAdd,Nat.reduceSub,Nat.reduceMul,Nat.reduceLeDiff,Int.reduceLT,Int.reduceLE,Int.reduceEq,↓reduceIte,Int.reduceNeg,Int.reduceAdd,Int.reduceSub,Int.reduceMul,true_imp_iff,forall_const,Nat.mul_one,Int.reduceToNat,Nat.reducePow,Int.reducePow,Bool.true_and,Bool.false_and,Bool.and_false,hw,hp,h4',←hF]
    refine fin _ (by omega) hR ?_
    simp (disch:=first|assumption|omega|(simp only [List.length_append,List.length_cons,List.length_nil];omega)) only [go_sem,reduceCtorEq,Nat.reduceEqDiff,Nat.reduceAdd,Nat.reduceSub,Nat.reduceMul,Nat.reduceLeDiff,Int.reduceLT,Int.reduceLE,Int.reduceEq,↓reduceIte,Int.reduceNeg,Int.reduceAdd,Int.reduceSub,Int.reduceMul,true_imp_iff,forall_const,Nat.mul_one,Int.reduceToNat,Nat.reducePow,Int.reducePow,Bool.true_and,Bool.false_and,Bool.and_false]
theorem whole_ok {a:Int} (ha:a.natAbs<=999999999999999999):Pure Tryz.prog 60 [.int .i64 a] (.int .i64 (a.tdiv 10000)):=by
 intro σ
 have hqb:(a.tdiv 10000).natAbs<=a.natAbs:=by rw [Int.natAbs_tdiv];exact Nat.div_le_self _ _
 have e:IntKind.i64.wrap (a.tdiv 10000)=a.tdiv 10000:=by rw [IntKind.wrap_i64];omega
 refine a60 (by simp) ?_
 simp (disch:=first|assumption|omega|(simp only [List.length_append,List.length_cons,List.length_nil];omega)) only [go_sem,reduceCtorEq,Nat.reduceEqDiff,Nat.reduceAdd,Nat.reduceSub,Nat.reduceMul,Nat.reduceLeDiff,Int.reduceLT,Int.reduceLE,Int.reduceEq,↓reduceIte,Int.reduceNeg,Int.reduceAdd,Int.reduceSub,Int.reduceMul,true_imp_iff,forall_const,Nat.mul_one,Int.reduceToNat,Nat.reducePow,Int.reducePow,Bool.true_and,Bool.false_and,Bool.and_false,e]
 exact retC_by (by repeat' (first|exact Drop.refl _|with_reducible refine Drop.off ?_ (by assumption))) (.refl _) ⟨rfl,rfl⟩
theorem isInt_ok (a:Int):Pure Tryz.prog 68 [.int .i64 a] (.bool (decide (a.tmod 10000=0))):=by
 intro σ
 refine a68 (by simp) ?_
 simp (disch:=first|assumption|omega|(simp only [List.length_append,List.length_cons,List.length_nil];omega)) only [go_sem,reduceCtorEq,Nat.reduceEqDiff,Nat.reduceAdd,Nat.reduceSub,Nat.reduceMul,Nat.reduceLeDiff,Int.reduceLT,Int.reduceLE,Int.reduceEq,↓reduceIte,Int.reduceNeg,Int.reduceAdd,Int.reduceSub,Int.reduceMul,true_imp_iff,forall_const,Nat.mul_one,Int.reduceToNat,Nat.reducePow,Int.reducePow,Bool.true_and,Bool.false_and,Bool.and_false]
 exact retC_by (by repeat' (first|exact Drop.refl _|with_reducible refine Drop.off ?_ (by assumption))) (.refl _) ⟨rfl,rfl⟩
theorem lcut_ok (s:List UInt8) (n:Nat):Pure Tryz.prog 4 [.str s,.int .i64 n] (.str (s.take n)):=by
 intro σ
 refine a4 (by simp) ?_
 by_cases h:n<s.length
 ·have h':(n:Int)<s.length:=by omega
  have g0:(0:Int)<=n:=by omega
  have g1:(n:Int)<=s.length:=by omega
  simp (disch:=first|assumption|omega|(simp only [List.length_append,List.length_cons,List.length_nil];omega)) only [go_sem,reduceCtorEq,Nat.reduceEqDiff,Nat.reduceAdd,Nat.reduceSub,Nat.reduceMul,Nat.reduceLeDiff,Int.reduceLT,Int.reduceLE,Int.reduceEq,↓reduceIte,Int.reduceNeg,Int.reduceAdd,Int.reduceSub,Int.reduceMul,true_imp_iff,forall_const,Nat.mul_one,Int.reduceToNat,Nat.reducePow,Int.reducePow,Bool.true_and,Bool.false_and,Bool.and_false,h',g0,g1]
  exact retC_by (by repeat' (first|exact Drop.refl _|with_reducible refine Drop.off ?_ (by assumption))) (.refl _) ⟨rfl,rfl⟩
 ·have h':¬ (n:Int)<s.length:=by omega
  rw [List.take_of_length_le (by omega)]
  simp (disch:=first|assumption|omega|(simp only [List.length_append,List.length_cons,List.length_nil];omega)) only [go_sem,reduceCtorEq,Nat.reduceEqDiff,Nat.reduceAdd,Nat.reduceSub,Nat.reduceMul,Nat.reduceLeDiff,Int.reduceLT,Int.reduceLE,Int.reduceEq,↓reduceIte,Int.reduceNeg,Int.reduceAdd,Int.reduceSub,Int.reduceMul,true_imp_iff,forall_const,Nat.mul_one,Int.reduceToNat,Nat.reducePow,Int.reducePow,Bool.true_and,Bool.false_and,Bool.and_false,h']
  exact retC_by (by repeat' (first|exact Drop.refl _|with_reducible refine Drop.off ?_ (by assumption))) (.refl _) ⟨rfl,rfl⟩
end Go.A
namespace Go.A
open Go.Proofs
theorem unit_no {p:Int} (h:4<=p):Pure Tryz.prog 59 [.int .i64 p] (.tuple [.int .u64 0,.bool false]):=by
 intro σ
 refine a59 (by simp) ?_
 simp (disch:=first|assumption|omega|(simp only [List.length_append,List.length_cons,List.length_nil];omega)) only [go_sem,reduceCtorEq,Nat.reduceEqDiff,Nat.reduceAdd,Nat.reduceSub,Nat.reduceMul,Nat.reduceLeDiff,Int.reduceLT,Int.reduceLE,Int.reduceEq,↓reduceIte,Int.reduceNeg,Int.reduceAdd,Int.reduceSub,Int.reduceMul,true_imp_iff,forall_const,Nat.mul_one,Int.reduceToNat,Nat.reducePow,Int.reducePow,Bool.true_and,Bool.false_and,Bool.and_false,h]
 exact retC_by (Drop.refl _) (.refl _) ⟨rfl,rfl⟩
theorem round_no {a p:Int} (h:4<=p):Pure Tryz.prog 24 [.int .i64 a,.int .i64 p] (resAV (some a)):=by
 intro σ
 have g1:¬ p < -14:=by omega
 refine a24 (by simp) ?_
 simp (disch:=first|assumption|omega|(simp only [List.length_append,List.length_cons,List.length_nil];omega)) only [go_sem,reduceCtorEq,Nat.reduceEqDiff,Nat.reduceAdd,Nat.reduceSub,Nat.reduceMul,Nat.reduceLeDiff,Int.reduceLT,Int.reduceLE,Int.reduceEq,↓reduceIte,Int.reduceNeg,Int.reduceAdd,Int.reduceSub,Int.reduceMul,true_imp_iff,forall_const,Nat.mul_one,Int.reduceToNat,Nat.reducePow,Int.reducePow,Bool.true_and,Bool.false_and,Bool.and_false,g1]
 refine (unit_no h).use ?_
 simp (disch:=first|assumption|omega|(simp only [List.length_append,List.length_cons,List.length_nil];omega)) only [go_sem,reduceCtorEq,Nat.reduceEqDiff,Nat.reduceAdd,Nat.reduceSub,Nat.reduceMul,Nat.reduceLeDiff,Int.reduceLT,Int.reduceLE,Int.reduceEq,↓reduceIte,Int.reduceNeg,Int.reduceAdd,Int.reduceSub,Int.reduceMul,true_imp_iff,forall_const,Nat.mul_one,Int.reduceToNat,Nat.reducePow,Int.reducePow,Bool.true_and,Bool.false_and,Bool.and_false]
 exact retC_by (by repeat' (first|exact Drop.refl _|with_reducible refine Drop.off ?_ (by assumption))) (.refl _) ⟨rfl,rfl⟩
theorem tmod_zero {r:Int} {u:Nat} (h:r.natAbs % u=0):r.tmod u=0:=by
 have:=Int.natAbs_tmod r u
 rw [Int.natAbs_natCast,h] at this
 omega
def fitP (x:Int):Option Int:=if x.natAbs<=999999999999999999 then some x else none
theorem madeP_abs (x:Int):madeP (decide (x<0)) x.natAbs=fitP x:=by
 unfold madeP fitP
 split
 ·congr 1
  simp only [decide_eq_true_eq]
  split<;>omega
 ·rfl
theorem sub_ok {a b:Int} (h:(a-b).natAbs<=9223372036854775807):Pure Tryz.prog 58 [.int .i64 a,.int .i64 b] (resAV (fitP (a-b))):=by
 intro σ
 have hM:=made_ok (decide (a-b<0)) (a-b).natAbs (by omega)
 rw [madeP_abs] at hM
 have hS:=size_ok (a-b) (by omega) (by omega)
 obtain ⟨c,hc⟩:∃ c,a-b=c:=⟨_,rfl⟩
 rw [hc] at hM hS h ⊢
 have hw:IntKind.i64.wrap (a-b)=c:=by rw [IntKind.wrap_i64];omega
 simp only [resAV] at hM ⊢
 refine a58 (by simp) ?_
 simp (disch:=first|assumption|omega|(simp only [List.length_append,List.length_cons,List.length_nil];omega)) only [go_sem,reduceCtorEq,Nat.reduceEqDiff,Nat.reduceAdd,Nat.reduceSub,Nat.reduceMul,Nat.reduceLeDiff,Int.reduceLT,Int.reduceLE,Int.reduceEq,↓reduceIte,Int.reduceNeg,Int.reduceAdd,Int.reduceSub,Int.reduceMul,true_imp_iff,forall_const,Nat.mul_one,Int.reduceToNat,Nat.reducePow,Int.reducePow,Bool.true_and,Bool.false_and,Bool.and_false,hc,hw]
 refine hS.use ?_
 simp (disch:=first|assumption|omega|(simp only [List.length_append,List.length_cons,List.length_nil];omega)) only [go_sem,reduceCtorEq,Nat.reduceEqDiff,Nat.reduceAdd,Nat.reduceSub,Nat.reduceMul,Nat.reduceLeDiff,Int.reduceLT,Int.reduceLE,Int.reduceEq,↓reduceIte,Int.reduceNeg,Int.reduceAdd,Int.reduceSub,Int.reduceMul,true_imp_iff,forall_const,Nat.mul_one,Int.reduceToNat,Nat.reducePow,Int.reducePow,Bool.true_and,Bool.false_and,Bool.and_false,hc,hw]
 refine hM.use ?_
 simp (disch:=first|assumption|omega|(simp only [List.length_append,List.length_cons,List.length_nil];omega)) only [go_sem,reduceCtorEq,Nat.reduceEqDiff,Nat.reduceAdd,Nat.reduceSub,Nat.reduceMul,Nat.reduceLeDiff,Int.reduceLT,Int.reduceLE,Int.reduceEq,↓reduceIte,Int.reduceNeg,Int.reduceAdd,Int.reduceSub,Int.reduceMul,true_imp_iff,forall_const,Nat.mul_one,Int.reduceToNat,Nat.reducePow,Int.reducePow,Bool.true_and,Bool.false_and,Bool.and_false]
 exact retC_by (by repeat' (first|exact Drop.refl _|with_reducible refine Drop.off ?_ (by assumption))) (.refl _) ⟨rfl,rfl⟩
theorem floor_ok {a b:Int} (ha:a.natAbs<=999999999999999999) (hb:0<b) (hb2:b<=999999999999999999):Pure Tryz.prog 21 [.int .i64 a,.int .i64 b] (resAV (fitP (a-a % b))):=by
 intro σ
 have h1:=Int.emod_nonneg a (Int.ne_of_gt hb)
 have h2:=Int.emod_lt_of_pos a hb
 have hM:=mod_ok ha hb hb2
 have hS:=sub_ok (a:=a) (b:=a % b) (by omega)
 have g1:¬ b<=0:=by omega
 generalize a % b=m at *
 simp only [resAV] at hS ⊢
 refine a21 (by simp) ?_
 simp (disch:=first|assumption|omega|(simp only [List.length_append,List.length_cons,List.length_nil];omega)) only [go_sem,reduceCtorEq,Nat.reduceEqDiff,Nat.reduceAdd,Nat.reduceSub,Nat.reduceMul,Nat.reduceLeDiff,Int.reduceLT,Int.reduceLE,Int.reduceEq,↓reduceIte,Int.reduceNeg,Int.reduceAdd,Int.reduceSub,Int.reduceMul,true_imp_iff,forall_const,Nat.mul_one,Int.reduceToNat,Nat.reducePow,Int.reducePow,Bool.true_and,Bool.false_and,Bool.and_false,g1]
 refine hM.use ?_
 simp (disch:=first|assumption|omega|(simp only [List.length_append,List.length_cons,List.length_nil];omega)) only [go_sem,reduceCtorEq,Nat.reduceEqDiff,Nat.reduceAdd,Nat.reduceSub,Nat.reduceMul,Nat.reduceLeDiff,Int.reduceLT,Int.reduceLE,Int.reduceEq,↓reduceIte,Int.reduceNeg,Int.reduceAdd,Int.reduceSub,Int.reduceMul,true_imp_iff,forall_const,Nat.mul_one,Int.reduceToNat,Nat.reducePow,Int.reducePow,Bool.true_and,Bool.false_and,Bool.and_false]
 refine hS.use ?_
 simp (disch:=first|assumption|omega|(simp only [List.length_append,List.length_cons,List.length_nil];omega)) only [go_sem,reduceCtorEq,Nat.reduceEqDiff,Nat.reduceAdd,Nat.reduceSub,Nat.reduceMul,Nat.reduceLeDiff,Int.reduceLT,Int.reduceLE,Int.reduceEq,↓reduceIte,Int.reduceNeg,Int.reduceAdd,Int.reduceSub,Int.reduceMul,true_imp_iff,forall_const,Nat.mul_one,Int.reduceToNat,Nat.reducePow,Int.reducePow,Bool.true_and,Bool.false_and,Bool.and_false]
 exact retC_by (by repeat' (first|exact Drop.refl _|with_reducible refine Drop.off ?_ (by assumption))) (.refl _) ⟨rfl,rfl⟩
theorem ceil_ok {a b:Int} (ha:a.natAbs<=999999999999999999) (hb:0<b) (hb2:b<=999999999999999999):Pure Tryz.prog 66 [.int .i64 a,.int .i64 b] (.tuple [.int .i64 (0-(fitP (-a-(-a) % b)).getD 0),.bool (fitP (-a-(-a) % b)).isSome]):=by
 intro σ
 have hF:=floor_ok (a := -a) (by omega) hb hb2
 rw [show -a=0-a by omega] at hF ⊢
 have hx:((fitP (0-a-(0-a) % b)).getD 0).natAbs<=999999999999999999:=by
  unfold fitP
  split
  ·assumption
  ·decide
 generalize fitP (0-a-(0-a) % b)=o at *
 simp only [resAV] at hF
 refine a66 (by simp) ?_
 simp (disch:=first|assumption|omega|(simp only [List.length_append,List.length_cons,List.length_nil];omega)) only [go_sem,reduceCtorEq,Nat.reduceEqDiff,Nat.reduceAdd,Nat.reduceSub,Nat.reduceMul,Nat.reduceLeDiff,Int.reduceLT,Int.reduceLE,Int.reduceEq,↓reduceIte,Int.reduceNeg,Int.reduceAdd,Int.reduceSub,Int.reduceMul,true_imp_iff,forall_const,Nat.mul_one,Int.reduceToNat,Nat.reducePow,Int.reducePow,Bool.true_and,Bool.false_and,Bool.and_false]
 refine hF.use ?_
 generalize o.getD 0=x at *
 simp (disch:=first|assumption|omega|(simp only [List.length_append,List.length_cons,List.length_nil];omega)) only [go_sem,reduceCtorEq,Nat.reduceEqDiff,Nat.reduceAdd,Nat.reduceSub,Nat.reduceMul,Nat.reduceLeDiff,Int.reduceLT,Int.reduceLE,Int.reduceEq,↓reduceIte,Int.reduceNeg,Int.reduceAdd,Int.reduceSub,Int.reduceMul,true_imp_iff,forall_const,Nat.mul_one,Int.reduceToNat,Nat.reducePow,Int.reducePow,Bool.true_and,Bool.false_and,Bool.and_false]
 exact retC_by (by repeat' (first|exact Drop.refl _|with_reducible refine Drop.off ?_ (by assumption))) (.refl _) ⟨rfl,rfl⟩
theorem emod_le {a b:Int} (ha:0<=a) (hb:0<b):a % b<=a:=by
 have h1:=Int.emod_add_mul_ediv a b
 have h2:=Int.mul_nonneg (Int.le_of_lt hb) (Int.ediv_nonneg ha (Int.le_of_lt hb))
 omega
end Go.A
namespace Go.A
open Go.Proofs
/-! 19: tabular/deci.Sign -/
def c19_15:ACode := .seq (.ops [ oq 2 (.mv (.v (.int .i64 0)))]) (.seq (.block 0 (.seq (.ops [ oq 4 (.mv (.t 0)),oq 5 (.bin .lss (.t 4) (.v (.int .i64 0))),oq 3 (.mv (.t 5))]) (.cond (.t 3) (.seq (.ops [ oq 2 (.mv (.v (.int .i64 (-1))))]) .ret) (.seq (.ops [ oq 7 (.mv (.t 0)),oq 8 (.bin .gtr (.t 7) (.v (.int .i64 0))),oq 6 (.mv (.t 8))]) (.cond (.t 6) (.seq (.ops [ oq 2 (.mv (.v (.int .i64 1)))]) .ret) .skip))))) (.seq (.ops [ oq 2 (.mv (.v (.int .i64 0)))]) .ret))
@[go_sem] def c19_15_wp:=wp_of c19_15.eq_1
def c19:AFn:=⟨9,[.t 2],c19_15⟩
theorem c19_ok:compF Tryz.prog Tryz.f19=some c19:=by kernel_rfl
theorem a19 {args:List AV} {σ:ASt} {R:AV->ASt->Prop} (hl:args.length<=9) (h:c19_15.wp Tryz.prog (RetQ [.t 2] R) (init args) σ):ACalls Tryz.prog 19 args σ R:=acalls_of Tryz.func19 c19_ok hl h
/-! 22: tabular/deci.Trunc -/
def c22_17:ACode := .seq (.ops [ oq 4 (.mv (.v (.int .i64 0)))]) (.seq (.seq (.ops [ oq 7 (.mv (.t 1)),oq 8 (.bin .lss (.t 7) (.v (.int .i64 (-14))))]) (.cond (.t 8) (.seq (.ops [ oq 4 (.mv (.v (.int .i64 0)))]) .ret) .skip)) (.seq (.ops [ oq 10 (.mv (.t 1)),oe 11 (.call 59 [(.t 10)]),oq 9 (.mv (.t 11)),oq 12 (.ext 0 (.t 9)),oq 13 (.ext 1 (.t 9)),oq 5 (.mv (.t 12)),oq 6 (.mv (.t 13))]) (.seq (.seq (.ops [ oq 14 (.mv (.t 6)),oq 15 (.un .not (.t 14))]) (.cond (.t 15) (.seq (.ops [ oq 16 (.mv (.t 0)),oq 4 (.mv (.t 16))]) .ret) .skip)) (.seq (.ops [ oq 17 (.mv (.t 0)),oq 18 (.mv (.t 0)),oq 19 (.mv (.t 5)),oq 20 (.conv .i64 (.t 19)),oq 21 (.bin .rem (.t 18) (.t 20)),oq 22 (.bin .sub (.t 17) (.t 21)),oq 4 (.mv (.t 22))]) .ret))))
@[go_sem] def c22_17_wp:=wp_of c22_17.eq_1
def c22:AFn:=⟨23,[.t 4],c22_17⟩
theorem c22_ok:compF Tryz.prog Tryz.f22=some c22:=by kernel_rfl
theorem a22 {args:List AV} {σ:ASt} {R:AV->ASt->Prop} (hl:args.length<=23) (h:c22_17.wp Tryz.prog (RetQ [.t 4] R) (init args) σ):ACalls Tryz.prog 22 args σ R:=acalls_of Tryz.func22 c22_ok hl h
/-! 32: tabular/deci.Sqrt -/
def c32_23:ACode := .seq (.seq (.ops [ oq 19 (.mv (.t 7)),oq 20 (.bin .gtr (.t 19) (.v (.int .u64 0)))]) (.cond (.t 20) .skip (.exit 0))) (.seq (.block 1 (.seq (.ops [ oq 23 (.mv (.t 6)),oq 24 (.mv (.t 7)),oq 25 (.bin .or (.t 23) (.t 24)),oq 8 (.mv (.t 25))]) (.seq (.ops [ oq 27 (.mv (.t 8)),oq 28 (.mv (.t 8)),oe 29 (.call 69 [(.t 27),(.t 28)]),oq 26 (.mv (.t 29)),oq 30 (.ext 0 (.t 26)),oq 31 (.ext 1 (.t 26)),oq 9 (.mv (.t 30)),oq 10 (.mv (.t 31))]) (.seq (.ops [ oq 32 (.mv (.t 9)),oq 33 (.mv (.t 4)),oq 34 (.bin .lss (.t 32) (.t 33)),oq 35 (.mv (.t 34)),⟨some 36,some (35,false),.q (.mv (.t 9)),[]⟩,⟨some 37,some (35,false),.q (.mv (.t 4)),[]⟩,⟨some 38,some (35,false),.q (.bin .eql (.t 36) (.t 37)),[]⟩,⟨some 39,some (35,false),.q (.mv (.t 38)),[]⟩,⟨some 40,some (39,true),.q (.mv (.t 10)),[]⟩,⟨some 41,some (39,true),.q (.mv (.t 5)),[]⟩,⟨some 42,some (39,true),.q (.bin .leq (.t 40) (.t 41)),[]⟩,⟨some 43,some (35,false),.q (.pick (.t 39) (.t 42) (.v (.bool false))),[]⟩,oq 44 (.pick (.t 35) (.v (.bool true)) (.t 43))]) (.cond (.t 44) (.ops [ oq 45 (.mv (.t 8)),oq 6 (.mv (.t 45))]) .skip))))) (.ops [ oq 21 (.mv (.t 7)),oq 22 (.bin .shr (.t 21) (.v (.int .u64 1))),oq 7 (.mv (.t 22))]))
def c32_33:ACode := .seq (.ops [ oq 2 (.mv (.v (.int .i64 0))),oq 3 (.mv (.v (.bool false)))]) (.seq (.seq (.ops [ oq 11 (.mv (.t 0)),oq 12 (.bin .lss (.t 11) (.v (.int .i64 0)))]) (.cond (.t 12) (.seq (.ops [ oq 2 (.mv (.v (.int .i64 0))),oq 3 (.mv (.v (.bool false)))]) .ret) .skip)) (.seq (.ops [ oq 14 (.mv (.t 0)),oq 15 (.conv .u64 (.t 14)),oe 16 (.call 69 [(.t 15),(.v (.int .u64 10000))]),oq 13 (.mv (.t 16)),oq 17 (.ext 0 (.t 13)),oq 18 (.ext 1 (.t 13)),oq 4 (.mv (.t 17)),oq 5 (.mv (.t 18))]) (.seq (.ops [ oq 6 (.mv (.v (.int .u64 0)))]) (.seq (.seq (.ops [ oq 7 (.mv (.v (.int .u64 137438953472)))]) (.block 0 (.loop c32_23))) (.seq (.ops [ oq 46 (.mv (.t 6)),oq 47 (.conv .i64 (.t 46)),oq 2 (.mv (.t 47)),oq 3 (.mv (.v (.bool true)))]) .ret)))))
@[go_sem] def c32_23_wp:=wp_of c32_23.eq_1
@[go_sem] def c32_33_wp:=wp_of c32_33.eq_1
def c32:AFn:=⟨48,[.t 2,.t 3],c32_33⟩
theorem c32_ok:compF Tryz.prog Tryz.f32=some c32:=by kernel_rfl
theorem a32 {args:List AV} {σ:ASt} {R:AV->ASt->Prop} (hl:args.length<=48) (h:c32_33.wp Tryz.prog (RetQ [.t 2,.t 3] R) (init args) σ):ACalls Tryz.prog 32 args σ R:=acalls_of Tryz.func32 c32_ok hl h
/-! 41: tabular/tabularref01.Size -/
def c41_9:ACode := .seq (.ops [ oq 2 (.mv (.v (.int .u64 0)))]) (.seq (.seq (.ops [ oq 3 (.mv (.t 0)),oq 4 (.bin .lss (.t 3) (.v (.int .i64 0)))]) (.cond (.t 4) (.seq (.ops [ oq 5 (.mv (.t 0)),oq 6 (.bin .add (.t 5) (.v (.int .i64 1))),oq 7 (.un .neg (.t 6)),oq 8 (.conv .u64 (.t 7)),oq 9 (.bin .add (.t 8) (.v (.int .u64 1))),oq 2 (.mv (.t 9))]) .ret) .skip)) (.seq (.ops [ oq 10 (.mv (.t 0)),oq 11 (.conv .u64 (.t 10)),oq 2 (.mv (.t 11))]) .ret))
@[go_sem] def c41_9_wp:=wp_of c41_9.eq_1
def c41:AFn:=⟨12,[.t 2],c41_9⟩
theorem c41_ok:compF Tryz.prog Tryz.f41=some c41:=by kernel_rfl
theorem a41 {args:List AV} {σ:ASt} {R:AV->ASt->Prop} (hl:args.length<=12) (h:c41_9.wp Tryz.prog (RetQ [.t 2] R) (init args) σ):ACalls Tryz.prog 41 args σ R:=acalls_of Tryz.func41 c41_ok hl h
/-! 43: tabular/tabularref01.Floor -/
def c43_3:ACode := .seq (.ops [ oq 4 (.mv (.v (.int .i64 0))),oq 5 (.mv (.v (.bool false)))]) (.seq (.ops [ oq 6 (.mv (.t 0)),oq 7 (.mv (.t 0)),oq 8 (.mv (.t 1)),oe 9 (.call 49 [(.t 7),(.t 8)]),oq 10 (.bin .sub (.t 6) (.t 9)),oe 11 (.call 77 [(.t 10)]),oq 12 (.ext 0 (.t 11)),oq 13 (.ext 1 (.t 11)),oq 4 (.mv (.t 12)),oq 5 (.mv (.t 13))]) .ret)
@[go_sem] def c43_3_wp:=wp_of c43_3.eq_1
def c43:AFn:=⟨14,[.t 4,.t 5],c43_3⟩
theorem c43_ok:compF Tryz.prog Tryz.f43=some c43:=by kernel_rfl
theorem a43 {args:List AV} {σ:ASt} {R:AV->ASt->Prop} (hl:args.length<=14) (h:c43_3.wp Tryz.prog (RetQ [.t 4,.t 5] R) (init args) σ):ACalls Tryz.prog 43 args σ R:=acalls_of Tryz.func43 c43_ok hl h
/-! 44: tabular/tabularref01.Trunc -/
def c44_26:ACode := .seq (.seq (.ops [ oq 24 (.mv (.t 7)),oq 25 (.mv (.t 6)),oq 26 (.bin .lss (.t 24) (.t 25))]) (.cond (.t 26) .skip (.exit 0))) (.seq (.block 1 (.ops [ oq 29 (.mv (.t 5)),oq 30 (.mv (.t 5)),oq 31 (.lenS (.t 30)),oq 32 (.mv (.t 6)),oq 33 (.bin .sub (.t 31) (.t 32)),oq 34 (.mv (.t 7)),oq 35 (.bin .add (.t 33) (.t 34)),oq 36 (.slto (true,0) (.t 29) (.t 35)),oq 37 (.bin .add (.t 36) (.v (.str [48]))),oq 38 (.mv (.t 5)),oq 39 (.mv (.t 5)),oq 40 (.lenS (.t 39)),oq 41 (.mv (.t 6)),oq 42 (.bin .sub (.t 40) (.t 41)),oq 43 (.mv (.t 7)),oq 44 (.bin .add (.t 42) (.t 43)),oq 45 (.bin .add (.t 44) (.v (.int .i64 1))),oq 46 (.slfrom (true,0) (.t 38) (.t 45)),oq 47 (.bin .add (.t 37) (.t 46)),oq 5 (.mv (.t 47))])) (.ops [ oq 27 (.mv (.t 7)),oq 28 (.bin .add (.t 27) (.v (.int .i64 1))),oq 7 (.mv (.t 28))]))
def c44_40:ACode := .seq (.ops [ oq 4 (.mv (.v (.int .i64 0)))]) (.seq (.seq (.ops [ oq 10 (.mv (.t 1)),oq 11 (.bin .geq (.t 10) (.v (.int .i64 4)))]) (.cond (.t 11) (.seq (.ops [ oq 12 (.mv (.t 0)),oq 4 (.mv (.t 12))]) .ret) .skip)) (.seq (.seq (.ops [ oq 13 (.mv (.t 1)),oq 14 (.bin .lss (.t 13) (.v (.int .i64 (-14))))]) (.cond (.t 14) (.seq (.ops [ oq 4 (.mv (.v (.int .i64 0)))]) .ret) .skip)) (.seq (.ops [ oq 15 (.mv (.t 0)),oe 16 (.call 41 [(.t 15)]),oe 17 (.call 78 [(.t 16)]),oq 5 (.mv (.t 17))]) (.seq (.ops [ oq 18 (.mv (.t 1)),oq 19 (.bin .sub (.v (.int .i64 4)) (.t 18)),oq 6 (.mv (.t 19))]) (.seq (.seq (.ops [ oq 20 (.mv (.t 5)),oq 21 (.lenS (.t 20)),oq 22 (.mv (.t 6)),oq 23 (.bin .leq (.t 21) (.t 22))]) (.cond (.t 23) (.seq (.ops [ oq 4 (.mv (.v (.int .i64 0)))]) .ret) .skip)) (.seq (.seq (.ops [ oq 7 (.mv (.v (.int .i64 0)))]) (.block 0 (.loop c44_26))) (.seq (.ops [ oq 49 (.mv (.t 0)),oq 50 (.bin .lss (.t 49) (.v (.int .i64 0))),oq 51 (.mv (.t 5)),oe 52 (.call 79 [(.t 50),(.t 51)]),oq 48 (.mv (.t 52)),oq 53 (.ext 0 (.t 48)),oq 54 (.ext 1 (.t 48)),oq 8 (.mv (.t 53)),oq 9 (.mv (.t 54))]) (.seq (.ops [ oq 55 (.mv (.t 8)),oq 4 (.mv (.t 55))]) .ret))))))))
@[go_sem] def c44_26_wp:=wp_of c44_26.eq_1
@[go_sem] def c44_40_wp:=wp_of c44_40.eq_1
def c44:AFn:=⟨56,[.t 4],c44_40⟩
theorem c44_ok:compF Tryz.prog Tryz.f44=some c44:=by kernel_rfl
theorem a44 {args:List AV} {σ:ASt} {R:AV->ASt->Prop} (hl:args.length<=56) (h:c44_40.wp Tryz.prog (RetQ [.t 4] R) (init args) σ):ACalls Tryz.prog 44 args σ R:=acalls_of Tryz.func44 c44_ok hl h
/-! 45: tabular/tabularref01.Round -/
def c45_20:ACode := .seq (.seq (.ops [ oq 20 (.mv (.t 7)),oq 21 (.bin .lss (.t 20) (.v (.int .i64 4)))]) (.cond (.t 21) .skip (.exit 0))) (.seq (.block 1 (.ops [ oq 24 (.mv (.t 6)),oq 25 (.bin .add (.t 24) (.v (.str [48]))),oq 6 (.mv (.t 25))])) (.ops [ oq 22 (.mv (.t 7)),oq 23 (.bin .add (.t 22) (.v (.int .i64 1))),oq 7 (.mv (.t 23))]))
def c45_30:ACode := .seq (.ops [ oq 4 (.mv (.v (.int .i64 0))),oq 5 (.mv (.v (.bool false)))]) (.seq (.seq (.ops [ oq 8 (.mv (.t 1)),oq 9 (.bin .geq (.t 8) (.v (.int .i64 4)))]) (.cond (.t 9) (.seq (.ops [ oq 10 (.mv (.t 0)),oq 4 (.mv (.t 10)),oq 5 (.mv (.v (.bool true)))]) .ret) .skip)) (.seq (.seq (.ops [ oq 11 (.mv (.t 1)),oq 12 (.bin .lss (.t 11) (.v (.int .i64 (-14))))]) (.cond (.t 12) (.seq (.ops [ oq 4 (.mv (.v (.int .i64 0))),oq 5 (.mv (.v (.bool true)))]) .ret) .skip)) (.seq (.ops [ oq 13 (.mv (.t 0)),oe 14 (.call 41 [(.t 13)]),oe 15 (.call 78 [(.t 14)]),oq 16 (.mv (.t 1)),oq 17 (.bin .sub (.v (.int .i64 4)) (.t 16)),oe 18 (.call 80 [(.t 15),(.t 17)]),oq 6 (.mv (.t 18))]) (.seq (.seq (.ops [ oq 19 (.mv (.t 1)),oq 7 (.mv (.t 19))]) (.block 0 (.loop c45_20))) (.seq (.ops [ oq 26 (.mv (.t 0)),oq 27 (.bin .lss (.t 26) (.v (.int .i64 0))),oq 28 (.mv (.t 6)),oe 29 (.call 81 [(.t 28)]),oe 30 (.call 79 [(.t 27),(.t 29)]),oq 31 (.ext 0 (.t 30)),oq 32 (.ext 1 (.t 30)),oq 4 (.mv (.t 31)),oq 5 (.mv (.t 32))]) .ret)))))
@[go_sem] def c45_20_wp:=wp_of c45_20.eq_1
@[go_sem] def c45_30_wp:=wp_of c45_30.eq_1
def c45:AFn:=⟨33,[.t 4,.t 5],c45_30⟩
theorem c45_ok:compF Tryz.prog Tryz.f45=some c45:=by kernel_rfl
theorem a45 {args:List AV} {σ:ASt} {R:AV->ASt->Prop} (hl:args.length<=33) (h:c45_30.wp Tryz.prog (RetQ [.t 4,.t 5] R) (init args) σ):ACalls Tryz.prog 45 args σ R:=acalls_of Tryz.func45 c45_ok hl h
/-! 47: tabular/tabularref01.Ceil -/
def c47_11:ACode := .seq (.ops [ oq 4 (.mv (.v (.int .i64 0))),oq 5 (.mv (.v (.bool false)))]) (.seq (.ops [ oq 7 (.mv (.t 0)),oq 8 (.mv (.t 1)),oe 9 (.call 49 [(.t 7),(.t 8)]),oq 6 (.mv (.t 9))]) (.seq (.seq (.ops [ oq 10 (.mv (.t 6)),oq 11 (.bin .eql (.t 10) (.v (.int .i64 0)))]) (.cond (.t 11) (.seq (.ops [ oq 12 (.mv (.t 0)),oq 4 (.mv (.t 12)),oq 5 (.mv (.v (.bool true)))]) .ret) .skip)) (.seq (.ops [ oq 13 (.mv (.t 0)),oq 14 (.mv (.t 6)),oq 15 (.bin .sub (.t 13) (.t 14)),oq 16 (.mv (.t 1)),oq 17 (.bin .add (.t 15) (.t 16)),oe 18 (.call 77 [(.t 17)]),oq 19 (.ext 0 (.t 18)),oq 20 (.ext 1 (.t 18)),oq 4 (.mv (.t 19)),oq 5 (.mv (.t 20))]) .ret)))
@[go_sem] def c47_11_wp:=wp_of c47_11.eq_1
def c47:AFn:=⟨21,[.t 4,.t 5],c47_11⟩
theorem c47_ok:compF Tryz.prog Tryz.f47=some c47:=by kernel_rfl
theorem a47 {args:List AV} {σ:ASt} {R:AV->ASt->Prop} (hl:args.length<=21) (h:c47_11.wp Tryz.prog (RetQ [.t 4,.t 5] R) (init args) σ):ACalls Tryz.prog 47 args σ R:=acalls_of Tryz.func47 c47_ok hl h
/-! 49: tabular/tabularref01.Mod -/
def c49_10:ACode := .seq (.ops [ oq 4 (.mv (.v (.int .i64 0)))]) (.seq (.ops [ oq 6 (.mv (.t 0)),oq 7 (.mv (.t 0)),oq 8 (.mv (.t 1)),oq 9 (.bin .quo (.t 7) (.t 8)),oq 10 (.mv (.t 1)),oq 11 (.bin .mul (.t 9) (.t 10)),oq 12 (.bin .sub (.t 6) (.t 11)),oq 5 (.mv (.t 12))]) (.seq (.seq (.ops [ oq 13 (.mv (.t 5)),oq 14 (.bin .lss (.t 13) (.v (.int .i64 0))),oq 15 (.mv (.t 14)),⟨some 16,some (15,true),.q (.mv (.t 1)),[]⟩,⟨some 17,some (15,true),.q (.bin .gtr (.t 16) (.v (.int .i64 0))),[]⟩,oq 18 (.pick (.t 15) (.t 17) (.v (.bool false))),oq 19 (.mv (.t 18)),⟨some 20,some (19,false),.q (.mv (.t 5)),[]⟩,⟨some 21,some (19,false),.q (.bin .gtr (.t 20) (.v (.int .i64 0))),[]⟩,⟨some 22,some (19,false),.q (.mv (.t 21)),[]⟩,⟨some 23,some (22,true),.q (.mv (.t 1)),[]⟩,⟨some 24,some (22,true),.q (.bin .lss (.t 23) (.v (.int .i64 0))),[]⟩,⟨some 25,some (19,false),.q (.pick (.t 22) (.t 24) (.v (.bool false))),[]⟩,oq 26 (.pick (.t 19) (.v (.bool true)) (.t 25))]) (.cond (.t 26) (.ops [ oq 27 (.mv (.t 5)),oq 28 (.mv (.t 1)),oq 29 (.bin .add (.t 27) (.t 28)),oq 5 (.mv (.t 29))]) .skip)) (.seq (.ops [ oq 30 (.mv (.t 5)),oq 4 (.mv (.t 30))]) .ret)))
@[go_sem] def c49_10_wp:=wp_of c49_10.eq_1
def c49:AFn:=⟨31,[.t 4],c49_10⟩
theorem c49_ok:compF Tryz.prog Tryz.f49=some c49:=by kernel_rfl
theorem a49 {args:List AV} {σ:ASt} {R:AV->ASt->Prop} (hl:args.length<=31) (h:c49_10.wp Tryz.prog (RetQ [.t 4] R) (init args) σ):ACalls Tryz.prog 49 args σ R:=acalls_of Tryz.func49 c49_ok hl h
/-! 67: tabular/deci.Int -/
def c67_12:ACode := .seq (.ops [ oq 2 (.mv (.v (.int .i64 0))),oq 3 (.mv (.v (.bool false)))]) (.seq (.ops [ oq 7 (.mv (.t 0)),oq 8 (.conv .u64 (.t 7)),oq 4 (.mv (.t 8))]) (.seq (.seq (.ops [ oq 9 (.mv (.t 0)),oq 10 (.bin .lss (.t 9) (.v (.int .i64 0)))]) (.cond (.t 10) (.ops [ oq 11 (.mv (.t 4)),oq 12 (.un .neg (.t 11)),oq 4 (.mv (.t 12))]) .skip)) (.seq (.ops [ oq 14 (.mv (.t 4)),oe 15 (.call 69 [(.t 14),(.v (.int .u64 10000))]),oq 13 (.mv (.t 15)),oq 16 (.ext 0 (.t 13)),oq 17 (.ext 1 (.t 13)),oq 5 (.mv (.t 16)),oq 6 (.mv (.t 17))]) (.seq (.ops [ oq 18 (.mv (.t 0)),oq 19 (.bin .lss (.t 18) (.v (.int .i64 0))),oq 20 (.mv (.t 5)),oq 21 (.mv (.t 6)),oe 22 (.call 62 [(.t 19),(.t 20),(.t 21)]),oq 23 (.ext 0 (.t 22)),oq 24 (.ext 1 (.t 22)),oq 2 (.mv (.t 23)),oq 3 (.mv (.t 24))]) .ret))))
@[go_sem] def c67_12_wp:=wp_of c67_12.eq_1
def c67:AFn:=⟨25,[.t 2,.t 3],c67_12⟩
theorem c67_ok:compF Tryz.prog Tryz.f67=some c67:=by kernel_rfl
theorem a67 {args:List AV} {σ:ASt} {R:AV->ASt->Prop} (hl:args.length<=25) (h:c67_12.wp Tryz.prog (RetQ [.t 2,.t 3] R) (init args) σ):ACalls Tryz.prog 67 args σ R:=acalls_of Tryz.func67 c67_ok hl h
/-! 75: tabular/tabularref01.Parse -/
def c75_28:ACode := .seq (.seq (.ops [ oq 20 (.mv (.t 8)),oq 21 (.mv (.t 0)),oq 22 (.lenS (.t 21)),oq 23 (.bin .lss (.t 20) (.t 22))]) (.cond (.t 23) .skip (.exit 0))) (.seq (.block 1 (.seq (.ops [ oq 26 (.mv (.t 0)),oq 27 (.mv (.t 8)),oq 28 (.idx (.t 26) (.t 27)),oq 29 (.bin .eql (.t 28) (.v (.int .u8 46)))]) (.cond (.t 29) (.ops [ oq 30 (.mv (.t 7)),oq 31 (.bin .add (.t 30) (.v (.int .i64 1))),oq 7 (.mv (.t 31))]) (.seq (.ops [ oq 32 (.mv (.t 0)),oq 33 (.mv (.t 8)),oq 34 (.idx (.t 32) (.t 33)),oq 35 (.bin .lss (.t 34) (.v (.int .u8 48))),oq 36 (.mv (.t 35)),⟨some 37,some (36,false),.q (.mv (.t 0)),[]⟩,⟨some 38,some (36,false),.q (.mv (.t 8)),[]⟩,⟨some 39,some (36,false),.q (.idx (.t 37) (.t 38)),[]⟩,⟨some 40,some (36,false),.q (.bin .gtr (.t 39) (.v (.int .u8 57))),[]⟩,oq 41 (.pick (.t 36) (.v (.bool true)) (.t 40))]) (.cond (.t 41) (.seq (.ops [ oq 2 (.mv (.v (.int .i64 0))),oq 3 (.mv (.v (.bool false)))]) .ret) (.seq (.ops [ oq 42 (.mv (.t 7)),oq 43 (.bin .eql (.t 42) (.v (.int .i64 0)))]) (.cond (.t 43) (.ops [ oq 44 (.mv (.t 5)),oq 45 (.mv (.t 0)),oq 46 (.mv (.t 8)),oq 47 (.mv (.t 8)),oq 48 (.bin .add (.t 47) (.v (.int .i64 1))),oq 49 (.sls (true,0) (.t 45) (.t 46) (.t 48)),oq 50 (.bin .add (.t 44) (.t 49)),oq 5 (.mv (.t 50))]) (.ops [ oq 51 (.mv (.t 6)),oq 52 (.mv (.t 0)),oq 53 (.mv (.t 8)),oq 54 (.mv (.t 8)),oq 55 (.bin .add (.t 54) (.v (.int .i64 1))),oq 56 (.sls (true,0) (.t 52) (.t 53) (.t 55)),oq 57 (.bin .add (.t 51) (.t 56)),oq 6 (.mv (.t 57))])))))))) (.ops [ oq 24 (.mv (.t 8)),oq 25 (.bin .add (.t 24) (.v (.int .i64 1))),oq 8 (.mv (.t 25))]))
def c75_42:ACode := .seq (.seq (.ops [ oq 79 (.mv (.t 6)),oq 80 (.lenS (.t 79)),oq 81 (.bin .lss (.t 80) (.v (.int .i64 4)))]) (.cond (.t 81) .skip (.exit 2))) (.block 3 (.ops [ oq 82 (.mv (.t 6)),oq 83 (.bin .add (.t 82) (.v (.str [48]))),oq 6 (.mv (.t 83))]))
def c75_47:ACode := .seq (.block 2 (.loop c75_42)) (.seq (.ops [ oq 84 (.mv (.t 4)),oq 85 (.mv (.t 5)),oq 86 (.mv (.t 6)),oq 87 (.bin .add (.t 85) (.t 86)),oe 88 (.call 81 [(.t 87)]),oe 89 (.call 79 [(.t 84),(.t 88)]),oq 90 (.ext 0 (.t 89)),oq 91 (.ext 1 (.t 89)),oq 2 (.mv (.t 90)),oq 3 (.mv (.t 91))]) .ret)
def c75_48:ACode := .seq (.seq (.ops [ oq 58 (.mv (.t 7)),oq 59 (.bin .gtr (.t 58) (.v (.int .i64 1))),oq 60 (.mv (.t 59)),⟨some 61,some (60,false),.q (.mv (.t 5)),[]⟩,⟨some 62,some (60,false),.q (.lenS (.t 61)),[]⟩,⟨some 63,some (60,false),.q (.bin .eql (.t 62) (.v (.int .i64 0))),[]⟩,oq 64 (.pick (.t 60) (.v (.bool true)) (.t 63)),oq 65 (.mv (.t 64)),⟨some 66,some (65,false),.q (.mv (.t 7)),[]⟩,⟨some 67,some (65,false),.q (.bin .eql (.t 66) (.v (.int .i64 1))),[]⟩,⟨some 68,some (65,false),.q (.mv (.t 67)),[]⟩,⟨some 69,some (68,true),.q (.mv (.t 6)),[]⟩,⟨some 70,some (68,true),.q (.lenS (.t 69)),[]⟩,⟨some 71,some (68,true),.q (.bin .eql (.t 70) (.v (.int .i64 0))),[]⟩,⟨some 72,some (65,false),.q (.pick (.t 68) (.t 71) (.v (.bool false))),[]⟩,oq 73 (.pick (.t 65) (.v (.bool true)) (.t 72)),oq 74 (.mv (.t 73)),⟨some 75,some (74,false),.q (.mv (.t 6)),[]⟩,⟨some 76,some (74,false),.q (.lenS (.t 75)),[]⟩,⟨some 77,some (74,false),.q (.bin .gtr (.t 76) (.v (.int .i64 4))),[]⟩,oq 78 (.pick (.t 74) (.v (.bool true)) (.t 77))]) (.cond (.t 78) (.seq (.ops [ oq 2 (.mv (.v (.int .i64 0))),oq 3 (.mv (.v (.bool false)))]) .ret) .skip)) c75_47
def c75_50:ACode := .seq (.ops [ oq 5 (.mv (.v (.str []))),oq 6 (.mv (.v (.str []))),oq 7 (.mv (.v (.int .i64 0)))]) (.seq (.seq (.ops [ oq 8 (.mv (.v (.int .i64 0)))]) (.block 0 (.loop c75_28))) c75_48)
def c75_53:ACode := .seq (.ops [ oq 2 (.mv (.v (.int .i64 0))),oq 3 (.mv (.v (.bool false)))]) (.seq (.ops [ oq 9 (.mv (.t 0)),oq 10 (.lenS (.t 9)),oq 11 (.bin .gtr (.t 10) (.v (.int .i64 0))),oq 12 (.mv (.t 11)),⟨some 13,some (12,true),.q (.mv (.t 0)),[]⟩,⟨some 14,some (12,true),.q (.idx (.t 13) (.v (.int .i64 0))),[]⟩,⟨some 15,some (12,true),.q (.bin .eql (.t 14) (.v (.int .u8 45))),[]⟩,oq 16 (.pick (.t 12) (.t 15) (.v (.bool false))),oq 4 (.mv (.t 16))]) (.seq (.seq (.ops [ oq 17 (.mv (.t 4))]) (.cond (.t 17) (.ops [ oq 18 (.mv (.t 0)),oq 19 (.slfrom (true,0) (.t 18) (.v (.int .i64 1))),oq 0 (.mv (.t 19))]) .skip)) c75_50))
@[go_sem] def c75_28_wp:=wp_of c75_28.eq_1
@[go_sem] def c75_42_wp:=wp_of c75_42.eq_1
@[go_sem] def c75_47_wp:=wp_of c75_47.eq_1
@[go_sem] def c75_48_wp:=wp_of c75_48.eq_1
@[go_sem] def c75_50_wp:=wp_of c75_50.eq_1
@[go_sem] def c75_53_wp:=wp_of c75_53.eq_1
def c75:AFn:=⟨92,[.t 2,.t 3],c75_53⟩
theorem c75_ok:compF Tryz.prog Tryz.f75=some c75:=by kernel_rfl
theorem a75 {args:List AV} {σ:ASt} {R:AV->ASt->Prop} (hl:args.length<=92) (h:c75_53.wp Tryz.prog (RetQ [.t 2,.t 3] R) (init args) σ):ACalls Tryz.prog 75 args σ R:=acalls_of Tryz.func75 c75_ok hl h
/-! 77: tabular/tabularref01.fit -/
def c77_9:ACode := .seq (.ops [ oq 2 (.mv (.v (.int .i64 0))),oq 3 (.mv (.v (.bool false)))]) (.seq (.seq (.ops [ oq 4 (.mv (.t 0)),oq 5 (.bin .gtr (.t 4) (.v (.int .i64 999999999999999999))),oq 6 (.mv (.t 5)),⟨some 7,some (6,false),.q (.mv (.t 0)),[]⟩,⟨some 8,some (6,false),.q (.bin .lss (.t 7) (.v (.int .i64 (-999999999999999999)))),[]⟩,oq 9 (.pick (.t 6) (.v (.bool true)) (.t 8))]) (.cond (.t 9) (.seq (.ops [ oq 2 (.mv (.v (.int .i64 0))),oq 3 (.mv (.v (.bool false)))]) .ret) .skip)) (.seq (.ops [ oq 10 (.mv (.t 0)),oq 2 (.mv (.t 10)),oq 3 (.mv (.v (.bool true)))]) .ret))
@[go_sem] def c77_9_wp:=wp_of c77_9.eq_1
def c77:AFn:=⟨11,[.t 2,.t 3],c77_9⟩
theorem c77_ok:compF Tryz.prog Tryz.f77=some c77:=by kernel_rfl
theorem a77 {args:List AV} {σ:ASt} {R:AV->ASt->Prop} (hl:args.length<=11) (h:c77_9.wp Tryz.prog (RetQ [.t 2,.t 3] R) (init args) σ):ACalls Tryz.prog 77 args σ R:=acalls_of Tryz.func77 c77_ok hl h
/-! 78: tabular/tabularref01.Digits -/
def c78_12:ACode := .seq (.seq (.ops [ oq 5 (.mv (.t 4)),oq 6 (.bin .lss (.t 5) (.v (.int .i64 20))),oq 7 (.mv (.t 6)),⟨some 8,some (7,true),.q (.mv (.t 4)),[]⟩,⟨some 9,some (7,true),.q (.bin .eql (.t 8) (.v (.int .i64 0))),[]⟩,⟨some 10,some (7,true),.q (.mv (.t 9)),[]⟩,⟨some 11,some (10,false),.q (.mv (.t 0)),[]⟩,⟨some 12,some (10,false),.q (.bin .gtr (.t 11) (.v (.int .u64 0))),[]⟩,⟨some 13,some (7,true),.q (.pick (.t 10) (.v (.bool true)) (.t 12)),[]⟩,oq 14 (.pick (.t 7) (.t 13) (.v (.bool false)))]) (.cond (.t 14) .skip (.exit 0))) (.seq (.block 1 (.seq (.ops [ oq 17 (.mv (.t 0)),oq 18 (.bin .rem (.t 17) (.v (.int .u64 10))),oq 19 (.bin .add (.v (.int .u64 48)) (.t 18)),oq 20 (.conv .u8 (.t 19)),oq 21 (.bsl 1 [(.t 20)]),oq 22 (.b2s (.t 21)),oq 23 (.mv (.t 3)),oq 24 (.bin .add (.t 22) (.t 23)),oq 3 (.mv (.t 24))]) (.ops [ oq 25 (.mv (.t 0)),oq 26 (.bin .quo (.t 25) (.v (.int .u64 10))),oq 0 (.mv (.t 26))]))) (.ops [ oq 15 (.mv (.t 4)),oq 16 (.bin .add (.t 15) (.v (.int .i64 1))),oq 4 (.mv (.t 16))]))
def c78_20:ACode := .seq (.ops [ oq 2 (.mv (.v (.str [])))]) (.seq (.ops [ oq 3 (.mv (.v (.str [])))]) (.seq (.seq (.ops [ oq 4 (.mv (.v (.int .i64 0)))]) (.block 0 (.loop c78_12))) (.seq (.ops [ oq 27 (.mv (.t 3)),oq 2 (.mv (.t 27))]) .ret)))
@[go_sem] def c78_12_wp:=wp_of c78_12.eq_1
@[go_sem] def c78_20_wp:=wp_of c78_20.eq_1
def c78:AFn:=⟨28,[.t 2],c78_20⟩
theorem c78_ok:compF Tryz.prog Tryz.f78=some c78:=by kernel_rfl
theorem a78 {args:List AV} {σ:ASt} {R:AV->ASt->Prop} (hl:args.length<=28) (h:c78_20.wp Tryz.prog (RetQ [.t 2] R) (init args) σ):ACalls Tryz.prog 78 args σ R:=acalls_of Tryz.func78 c78_ok hl h
/-! 79: tabular/tabularref01.Value -/
def c79_16:ACode := .seq (.seq (.ops [ oq 8 (.mv (.t 7)),oq 9 (.mv (.t 1)),oq 10 (.lenS (.t 9)),oq 11 (.bin .lss (.t 8) (.t 10))]) (.cond (.t 11) .skip (.exit 0))) (.seq (.block 1 (.seq (.seq (.ops [ oq 14 (.mv (.t 6)),oq 15 (.bin .gtr (.t 14) (.v (.int .u64 99999999999999999)))]) (.cond (.t 15) (.seq (.ops [ oq 4 (.mv (.v (.int .i64 0))),oq 5 (.mv (.v (.bool false)))]) .ret) .skip)) (.ops [ oq 16 (.mv (.t 6)),oq 17 (.bin .mul (.v (.int .u64 10)) (.t 16)),oq 18 (.mv (.t 1)),oq 19 (.mv (.t 7)),oq 20 (.idx (.t 18) (.t 19)),oq 21 (.conv .u64 (.t 20)),oq 22 (.bin .add (.t 17) (.t 21)),oq 23 (.bin .sub (.t 22) (.v (.int .u64 48))),oq 6 (.mv (.t 23))]))) (.ops [ oq 12 (.mv (.t 7)),oq 13 (.bin .add (.t 12) (.v (.int .i64 1))),oq 7 (.mv (.t 13))]))
def c79_36:ACode := .seq (.ops [ oq 4 (.mv (.v (.int .i64 0))),oq 5 (.mv (.v (.bool false)))]) (.seq (.ops [ oq 6 (.mv (.v (.int .u64 0)))]) (.seq (.seq (.ops [ oq 7 (.mv (.v (.int .i64 0)))]) (.block 0 (.loop c79_16))) (.seq (.seq (.ops [ oq 24 (.mv (.t 6)),oq 25 (.bin .gtr (.t 24) (.v (.int .u64 999999999999999999)))]) (.cond (.t 25) (.seq (.ops [ oq 4 (.mv (.v (.int .i64 0))),oq 5 (.mv (.v (.bool false)))]) .ret) .skip)) (.seq (.seq (.ops [ oq 26 (.mv (.t 0))]) (.cond (.t 26) (.seq (.ops [ oq 27 (.mv (.t 6)),oq 28 (.conv .i64 (.t 27)),oq 29 (.un .neg (.t 28)),oq 4 (.mv (.t 29)),oq 5 (.mv (.v (.bool true)))]) .ret) .skip)) (.seq (.ops [ oq 30 (.mv (.t 6)),oq 31 (.conv .i64 (.t 30)),oq 4 (.mv (.t 31)),oq 5 (.mv (.v (.bool true)))]) .ret)))))
@[go_sem] def c79_16_wp:=wp_of c79_16.eq_1
@[go_sem] def c79_36_wp:=wp_of c79_36.eq_1
def c79:AFn:=⟨32,[.t 4,.t 5],c79_36⟩
theorem c79_ok:compF Tryz.prog Tryz.f79=some c79:=by kernel_rfl
theorem a79 {args:List AV} {σ:ASt} {R:AV->ASt->Prop} (hl:args.length<=32) (h:c79_36.wp Tryz.prog (RetQ [.t 4,.t 5] R) (init args) σ):ACalls Tryz.prog 79 args σ R:=acalls_of Tryz.func79 c79_ok hl h
/-! 80: tabular/tabularref01.Cut -/
def c80_6:ACode := .seq (.seq (.ops [ oq 5 (.mv (.t 0)),oq 6 (.lenS (.t 5)),oq 7 (.mv (.t 1)),oq 8 (.bin .leq (.t 6) (.t 7))]) (.cond (.t 8) .skip (.exit 0))) (.block 1 (.ops [ oq 9 (.mv (.t 0)),oq 10 (.bin .add (.v (.str [48])) (.t 9)),oq 0 (.mv (.t 10))]))
def c80_24:ACode := .seq (.ops [ oq 4 (.mv (.v (.str [])))]) (.seq (.block 0 (.loop c80_6)) (.seq (.seq (.ops [ oq 11 (.mv (.t 1)),oq 12 (.bin .eql (.t 11) (.v (.int .i64 0)))]) (.cond (.t 12) (.seq (.ops [ oq 13 (.mv (.t 0)),oq 4 (.mv (.t 13))]) .ret) .skip)) (.seq (.seq (.ops [ oq 14 (.mv (.t 0)),oq 15 (.mv (.t 0)),oq 16 (.lenS (.t 15)),oq 17 (.mv (.t 1)),oq 18 (.bin .sub (.t 16) (.t 17)),oq 19 (.idx (.t 14) (.t 18)),oq 20 (.bin .geq (.t 19) (.v (.int .u8 53)))]) (.cond (.t 20) (.seq (.ops [ oq 21 (.mv (.t 0)),oq 22 (.mv (.t 0)),oq 23 (.lenS (.t 22)),oq 24 (.mv (.t 1)),oq 25 (.bin .sub (.t 23) (.t 24)),oq 26 (.slto (true,0) (.t 21) (.t 25)),oe 27 (.call 93 [(.t 26)]),oq 4 (.mv (.t 27))]) .ret) .skip)) (.seq (.ops [ oq 28 (.mv (.t 0)),oq 29 (.mv (.t 0)),oq 30 (.lenS (.t 29)),oq 31 (.mv (.t 1)),oq 32 (.bin .sub (.t 30) (.t 31)),oq 33 (.slto (true,0) (.t 28) (.t 32)),oq 4 (.mv (.t 33))]) .ret))))
@[go_sem] def c80_6_wp:=wp_of c80_6.eq_1
@[go_sem] def c80_24_wp:=wp_of c80_24.eq_1
def c80:AFn:=⟨34,[.t 4],c80_24⟩
theorem c80_ok:compF Tryz.prog Tryz.f80=some c80:=by kernel_rfl
theorem a80 {args:List AV} {σ:ASt} {R:AV->ASt->Prop} (hl:args.length<=34) (h:c80_24.wp Tryz.prog (RetQ [.t 4] R) (init args) σ):ACalls Tryz.prog 80 args σ R:=acalls_of Tryz.func80 c80_ok hl h
/-! 81: tabular/tabularref01.Strip -/
def c81_6:ACode := .seq (.seq (.ops [ oq 3 (.mv (.t 0)),oq 4 (.lenS (.t 3)),oq 5 (.bin .gtr (.t 4) (.v (.int .i64 0))),oq 6 (.mv (.t 5)),⟨some 7,some (6,true),.q (.mv (.t 0)),[]⟩,⟨some 8,some (6,true),.q (.idx (.t 7) (.v (.int .i64 0))),[]⟩,⟨some 9,some (6,true),.q (.bin .eql (.t 8) (.v (.int .u8 48))),[]⟩,oq 10 (.pick (.t 6) (.t 9) (.v (.bool false)))]) (.cond (.t 10) .skip (.exit 0))) (.block 1 (.ops [ oq 11 (.mv (.t 0)),oq 12 (.slfrom (true,0) (.t 11) (.v (.int .i64 1))),oq 0 (.mv (.t 12))]))
def c81_12:ACode := .seq (.ops [ oq 2 (.mv (.v (.str [])))]) (.seq (.block 0 (.loop c81_6)) (.seq (.ops [ oq 13 (.mv (.t 0)),oq 2 (.mv (.t 13))]) .ret))
@[go_sem] def c81_6_wp:=wp_of c81_6.eq_1
@[go_sem] def c81_12_wp:=wp_of c81_12.eq_1
def c81:AFn:=⟨14,[.t 2],c81_12⟩
theorem c81_ok:compF Tryz.prog Tryz.f81=some c81:=by kernel_rfl
theorem a81 {args:List AV} {σ:ASt} {R:AV->ASt->Prop} (hl:args.length<=14) (h:c81_12.wp Tryz.prog (RetQ [.t 2] R) (init args) σ):ACalls Tryz.prog 81 args σ R:=acalls_of Tryz.func81 c81_ok hl h
/-! 93: tabular/tabularref01.Inc -/
def c93_18:ACode := .seq (.seq (.ops [ oq 10 (.mv (.t 4)),oq 11 (.bin .geq (.t 10) (.v (.int .i64 0)))]) (.cond (.t 11) .skip (.exit 0))) (.seq (.block 1 (.seq (.seq (.ops [ oq 14 (.mv (.t 3)),oq 15 (.mv (.t 4)),oq 16 (.ia 1 (.t 14) (.t 15)),oq 17 (.ld none (.t 16)),oq 18 (.bin .lss (.t 17) (.v (.int .u8 57)))]) (.cond (.t 18) (.seq (.ops [ oq 19 (.mv (.t 3)),oq 20 (.mv (.t 4)),oq 21 (.ia 1 (.t 19) (.t 20)),oq 22 (.ld none (.t 21)),oq 23 (.bin .add (.t 22) (.v (.int .u8 1))),oq 24 (.ia 1 (.t 19) (.t 20)),oz (.store 1 (.t 24) (.t 23))]) (.seq (.ops [ oq 25 (.mv (.t 3)),oq 26 (.b2s (.t 25)),oq 2 (.mv (.t 26))]) .ret)) .skip)) (.ops [ oq 27 (.mv (.t 3)),oq 28 (.mv (.t 4)),oq 29 (.ia 1 (.t 27) (.t 28)),oz (.store 1 (.t 29) (.v (.int .u8 48)))]))) (.ops [ oq 12 (.mv (.t 4)),oq 13 (.bin .sub (.t 12) (.v (.int .i64 1))),oq 4 (.mv (.t 13))]))
def c93_26:ACode := .seq (.ops [ oq 2 (.mv (.v (.str [])))]) (.seq (.ops [ oq 5 (.mv (.t 0)),oe 6 (.s2b (.t 5)),oq 3 (.mv (.t 6))]) (.seq (.seq (.ops [ oq 7 (.mv (.t 3)),oq 8 (.len (.t 7)),oq 9 (.bin .sub (.t 8) (.v (.int .i64 1))),oq 4 (.mv (.t 9))]) (.block 0 (.loop c93_18))) (.seq (.ops [ oq 30 (.mv (.t 3)),oq 31 (.b2s (.t 30)),oq 32 (.bin .add (.v (.str [49])) (.t 31)),oq 2 (.mv (.t 32))]) .ret)))
@[go_sem] def c93_18_wp:=wp_of c93_18.eq_1
@[go_sem] def c93_26_wp:=wp_of c93_26.eq_1
def c93:AFn:=⟨33,[.t 2],c93_26⟩
theorem c93_ok:compF Tryz.prog Tryz.f93=some c93:=by kernel_rfl
theorem a93 {args:List AV} {σ:ASt} {R:AV->ASt->Prop} (hl:args.length<=33) (h:c93_26.wp Tryz.prog (RetQ [.t 2] R) (init args) σ):ACalls Tryz.prog 93 args σ R:=acalls_of Tryz.func93 c93_ok hl h
end Go.A
