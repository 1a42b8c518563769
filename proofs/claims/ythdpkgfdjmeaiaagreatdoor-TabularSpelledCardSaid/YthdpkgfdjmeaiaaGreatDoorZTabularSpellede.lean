/- Part 5 of what TabularSpelled leans on: CodeKa Ka CodeKb Kb CodeKc Kc CodeKd Kd CodeKe Ke CodeKf Kf Shelf Wz CodeH Hc Hd CodeTg. -/
import Derived.Test.YthdpkgfdjmeaiaaGreatDoorProg
import Derived.KernelRfl
import Derived.Shelf.Strings.Builder1
import Derived.Shelf.Strings.Builder2
import Derived.Shelf.Strings.Trim
import Derived.Shelf.Small.Utf8
import Derived.Shelf.Small.Strs
import Derived.Shelf.Small.Wraps
import Derived.Shelf.Strings.BuilderF
import Derived.Shelf.Strings.BuilderK
import Derived.Shelf.Strings.BuilderRune
import Derived.Shelf.Utf8.AppendRunePlain
import Derived.Shelf.Utf8.RuneCount
import Derived.Shelf.Strings.Builder2Cap
import Derived.Shelf.Strconv.Itoa0
import Derived.Shelf.Strconv.Itoa1
import Derived.Shelf.LaysM
import Derived.Shelf.Strconv.Itoa2
import Derived.Shelf.Strconv.Itoa3
import Derived.Shelf.Strings.Search1
import Derived.Shelf.Strings.Search2
import Derived.Shelf.Strings.Search3
import Derived.Shelf.Strings.Cut
import Derived.Shelf.Strings.Count
import Derived.Shelf.Strings.Shaped
import Derived.Shelf.Strings.Prefix
import Derived.Shelf.Strings.Split
import Derived.Shelf.Strings.Replace
import Derived.Shelf.Strings.SplitShaped
import Derived.Shelf.Strings.Runes
import Derived.Shelf.Strings.RuneCount
import Derived.Shelf.Strings.AsciiSet
import Derived.Shelf.Unicode.DecodeSlow
import Derived.Shelf.Unicode.DecodeAny
import Derived.Shelf.Strings.BuilderCap
import Derived.Lib.ItoaMem
import Derived.Lib.AppendIntMem
import Derived.BigCall
import Derived.BigGuard
import Derived.Test.YthdpkgfdjmeaiaaGreatDoorZTabularSpelledd
set_option linter.defProp false
set_option linter.unusedSimpArgs false
set_option linter.unusedVariables false
set_option maxRecDepth 100000
namespace Go.A
abbrev oq (d:Nat) (x:QOp):AItem:=⟨some d,none,.q x,[]⟩
abbrev oe (d:Nat) (x:EOp):AItem:=⟨some d,none,.e x,[]⟩
abbrev oz (x:EOp):AItem:=⟨none,none,.e x,[]⟩
@[go_sem] theorem run_oq {P:Program} {K:AFr->ASt->Prop} {a:AFr} {σ:ASt} {d:Nat} {q:QOp} {r:List AItem}:runI P (oq d q::r) K a σ=qC P (q.ev a σ) (some d) r K a σ:=run_q
@[go_sem] theorem run_oe {P:Program} {K:AFr->ASt->Prop} {a:AFr} {σ:ASt} {d:Nat} {e:EOp} {r:List AItem}:runI P (oe d e::r) K a σ=e.step P a σ (eK P (some d) [] r K a):=run_e
@[go_sem] theorem run_oz {P:Program} {K:AFr->ASt->Prop} {a:AFr} {σ:ASt} {e:EOp} {r:List AItem}:runI P (oz e::r) K a σ=e.step P a σ (eK P none [] r K a):=run_e
open Go.Proofs
/-! 28: tabular/check.Open -/
def c28_19:ACode := .seq (.ops [ oq 2 (.mv (.v (.str []))),oq 3 (.mv (.v (.bool false)))]) (.seq (.ops [ oq 7 (.mv (.t 0)),oq 8 (.lenS (.t 7)),oq 9 (.bin .sub (.t 8) (.v (.int .i64 4))),oq 4 (.mv (.t 9))]) (.seq (.seq (.ops [ oq 10 (.mv (.t 4)),oq 11 (.bin .lss (.t 10) (.v (.int .i64 0)))]) (.cond (.t 11) (.seq (.ops [ oq 2 (.mv (.v (.str []))),oq 3 (.mv (.v (.bool false)))]) .ret) .skip)) (.seq (.seq (.ops [ oq 13 (.mv (.t 0)),oq 14 (.mv (.t 4)),oq 15 (.slfrom (true,0) (.t 13) (.t 14)),oe 16 (.call 60 [(.t 15)]),oq 12 (.mv (.t 16)),oq 17 (.ext 0 (.t 12)),oq 18 (.ext 1 (.t 12)),oq 5 (.mv (.t 17)),oq 6 (.mv (.t 18))]) (.seq (.ops [ oq 19 (.mv (.t 5)),oq 20 (.mv (.t 0)),oq 21 (.mv (.t 4)),oq 22 (.slto (true,0) (.t 20) (.t 21)),oe 23 (.call 61 [(.t 22)]),oq 24 (.bin .neq (.t 19) (.t 23))]) (.cond (.t 24) (.seq (.ops [ oq 2 (.mv (.v (.str []))),oq 3 (.mv (.v (.bool false)))]) .ret) .skip))) (.seq (.ops [ oq 25 (.mv (.t 0)),oq 26 (.mv (.t 4)),oq 27 (.slto (true,0) (.t 25) (.t 26)),oq 2 (.mv (.t 27)),oq 3 (.mv (.v (.bool true)))]) .ret))))
@[go_sem] def c28_19_wp:=wp_of c28_19.eq_1
def c28:AFn:=⟨28,[.t 2,.t 3],c28_19⟩
theorem c28_ok:compF Tryz.prog Tryz.f28=some c28:=by kernel_rfl
theorem a28 {args:List AV} {σ:ASt} {R:AV->ASt->Prop} (hl:args.length<=28) (h:c28_19.wp Tryz.prog (RetQ [.t 2,.t 3] R) (init args) σ):ACalls Tryz.prog 28 args σ R:=acalls_of Tryz.func28 c28_ok hl h
/-! 29: tabular/check.Seal -/
def c29_3:ACode := .seq (.ops [ oq 2 (.mv (.v (.str [])))]) (.seq (.ops [ oq 3 (.mv (.t 0)),oq 4 (.mv (.t 0)),oe 5 (.call 61 [(.t 4)]),oe 6 (.call 62 [(.t 5)]),oq 7 (.bin .add (.t 3) (.t 6)),oq 2 (.mv (.t 7))]) .ret)
@[go_sem] def c29_3_wp:=wp_of c29_3.eq_1
def c29:AFn:=⟨8,[.t 2],c29_3⟩
theorem c29_ok:compF Tryz.prog Tryz.f29=some c29:=by kernel_rfl
theorem a29 {args:List AV} {σ:ASt} {R:AV->ASt->Prop} (hl:args.length<=8) (h:c29_3.wp Tryz.prog (RetQ [.t 2] R) (init args) σ):ACalls Tryz.prog 29 args σ R:=acalls_of Tryz.func29 c29_ok hl h
/-! 60: tabular/check.Get -/
def c60_9:ACode := .seq (.ops [ oq 2 (.mv (.v (.int .u32 0))),oq 3 (.mv (.v (.bool false)))]) (.seq (.seq (.ops [ oq 4 (.mv (.t 0)),oq 5 (.lenS (.t 4)),oq 6 (.bin .neq (.t 5) (.v (.int .i64 4)))]) (.cond (.t 6) (.seq (.ops [ oq 2 (.mv (.v (.int .u32 0))),oq 3 (.mv (.v (.bool false)))]) .ret) .skip)) (.seq (.ops [ oq 7 (.mv (.t 0)),oq 8 (.idx (.t 7) (.v (.int .i64 0))),oq 9 (.conv .u32 (.t 8)),oq 10 (.mv (.t 0)),oq 11 (.idx (.t 10) (.v (.int .i64 1))),oq 12 (.conv .u32 (.t 11)),oq 13 (.bin .shl (.t 12) (.v (.int .u64 8))),oq 14 (.bin .or (.t 9) (.t 13)),oq 15 (.mv (.t 0)),oq 16 (.idx (.t 15) (.v (.int .i64 2))),oq 17 (.conv .u32 (.t 16)),oq 18 (.bin .shl (.t 17) (.v (.int .u64 16))),oq 19 (.bin .or (.t 14) (.t 18)),oq 20 (.mv (.t 0)),oq 21 (.idx (.t 20) (.v (.int .i64 3))),oq 22 (.conv .u32 (.t 21)),oq 23 (.bin .shl (.t 22) (.v (.int .u64 24))),oq 24 (.bin .or (.t 19) (.t 23)),oq 2 (.mv (.t 24)),oq 3 (.mv (.v (.bool true)))]) .ret))
@[go_sem] def c60_9_wp:=wp_of c60_9.eq_1
def c60:AFn:=⟨25,[.t 2,.t 3],c60_9⟩
theorem c60_ok:compF Tryz.prog Tryz.f60=some c60:=by kernel_rfl
theorem a60 {args:List AV} {σ:ASt} {R:AV->ASt->Prop} (hl:args.length<=25) (h:c60_9.wp Tryz.prog (RetQ [.t 2,.t 3] R) (init args) σ):ACalls Tryz.prog 60 args σ R:=acalls_of Tryz.func60 c60_ok hl h
/-! 61: tabular/check.Sum -/
def c61_3:ACode := .seq (.ops [ oq 2 (.mv (.v (.int .u32 0)))]) (.seq (.ops [ oq 3 (.mv (.t 0)),oe 4 (.call 98 [(.v (.int .u32 0)),(.t 3)]),oq 2 (.mv (.t 4))]) .ret)
@[go_sem] def c61_3_wp:=wp_of c61_3.eq_1
def c61:AFn:=⟨5,[.t 2],c61_3⟩
theorem c61_ok:compF Tryz.prog Tryz.f61=some c61:=by kernel_rfl
theorem a61 {args:List AV} {σ:ASt} {R:AV->ASt->Prop} (hl:args.length<=5) (h:c61_3.wp Tryz.prog (RetQ [.t 2] R) (init args) σ):ACalls Tryz.prog 61 args σ R:=acalls_of Tryz.func61 c61_ok hl h
/-! 62: tabular/check.Put -/
def c62_3:ACode := .seq (.ops [ oq 2 (.mv (.v (.str [])))]) (.seq (.ops [ oq 3 (.mv (.t 0)),oq 4 (.conv .u8 (.t 3)),oq 5 (.mv (.t 0)),oq 6 (.bin .shr (.t 5) (.v (.int .u64 8))),oq 7 (.conv .u8 (.t 6)),oq 8 (.mv (.t 0)),oq 9 (.bin .shr (.t 8) (.v (.int .u64 16))),oq 10 (.conv .u8 (.t 9)),oq 11 (.mv (.t 0)),oq 12 (.bin .shr (.t 11) (.v (.int .u64 24))),oq 13 (.conv .u8 (.t 12)),oq 14 (.bsl 1 [(.t 4),(.t 7),(.t 10),(.t 13)]),oq 15 (.b2s (.t 14)),oq 2 (.mv (.t 15))]) .ret)
@[go_sem] def c62_3_wp:=wp_of c62_3.eq_1
def c62:AFn:=⟨16,[.t 2],c62_3⟩
theorem c62_ok:compF Tryz.prog Tryz.f62=some c62:=by kernel_rfl
theorem a62 {args:List AV} {σ:ASt} {R:AV->ASt->Prop} (hl:args.length<=16) (h:c62_3.wp Tryz.prog (RetQ [.t 2] R) (init args) σ):ACalls Tryz.prog 62 args σ R:=acalls_of Tryz.func62 c62_ok hl h
/-! 98: tabular/check.Add -/
def c98_12:ACode := .seq (.ops [ oq 12 (.bin .lss (.t 11) (.t 10))]) (.seq (.cond (.t 12) .skip (.exit 0)) (.seq (.block 1 (.seq (.ops [ oq 13 (.mv (.t 11)),oq 6 (.mv (.t 13))]) (.ops [ oq 14 (.mv (.t 5)),oq 15 (.mv (.t 1)),oq 16 (.mv (.t 6)),oq 17 (.idx (.t 15) (.t 16)),oe 18 (.call 127 [(.t 14),(.t 17)]),oq 5 (.mv (.t 18))]))) (.ops [ oq 19 (.bin .add (.t 11) (.v (.int .i64 1))),oq 11 (.mv (.t 19))])))
def c98_20:ACode := .seq (.ops [ oq 4 (.mv (.v (.int .u32 0)))]) (.seq (.ops [ oq 7 (.mv (.t 0)),oq 8 (.un .xor (.t 7)),oq 5 (.mv (.t 8))]) (.seq (.seq (.ops [ oq 9 (.mv (.t 1)),oq 10 (.lenS (.t 9)),oq 11 (.mv (.v (.int .i64 0)))]) (.block 0 (.loop c98_12))) (.seq (.ops [ oq 20 (.mv (.t 5)),oq 21 (.un .xor (.t 20)),oq 4 (.mv (.t 21))]) .ret)))
@[go_sem] def c98_12_wp:=wp_of c98_12.eq_1
@[go_sem] def c98_20_wp:=wp_of c98_20.eq_1
def c98:AFn:=⟨22,[.t 4],c98_20⟩
theorem c98_ok:compF Tryz.prog Tryz.f98=some c98:=by kernel_rfl
theorem a98 {args:List AV} {σ:ASt} {R:AV->ASt->Prop} (hl:args.length<=22) (h:c98_20.wp Tryz.prog (RetQ [.t 4] R) (init args) σ):ACalls Tryz.prog 98 args σ R:=acalls_of Tryz.func98 c98_ok hl h
/-! 127: tabular/check.step -/
def c127_7:ACode := .seq (.ops [ oq 4 (.mv (.v (.int .u32 0)))]) (.seq (.ops [ oq 5 (.mv (.t 0)),oq 6 (.mv (.t 1)),oq 7 (.conv .u32 (.t 6)),oq 8 (.bin .xor (.t 5) (.t 7)),oq 0 (.mv (.t 8))]) (.seq (.ops [ oq 9 (.mv (.t 0)),oq 10 (.bin .shr (.t 9) (.v (.int .u64 4))),oq 11 (.mv (.t 0)),oq 12 (.bin .and (.t 11) (.v (.int .u32 15))),oq 13 (.iaa 16 1 (.v (.ptr 1 0)) (.t 12)),oq 14 (.ld none (.t 13)),oq 15 (.bin .xor (.t 10) (.t 14)),oq 0 (.mv (.t 15))]) (.seq (.ops [ oq 16 (.mv (.t 0)),oq 17 (.bin .shr (.t 16) (.v (.int .u64 4))),oq 18 (.mv (.t 0)),oq 19 (.bin .and (.t 18) (.v (.int .u32 15))),oq 20 (.iaa 16 1 (.v (.ptr 1 0)) (.t 19)),oq 21 (.ld none (.t 20)),oq 22 (.bin .xor (.t 17) (.t 21)),oq 4 (.mv (.t 22))]) .ret)))
@[go_sem] def c127_7_wp:=wp_of c127_7.eq_1
def c127:AFn:=⟨23,[.t 4],c127_7⟩
theorem c127_ok:compF Tryz.prog Tryz.f127=some c127:=by kernel_rfl
theorem a127 {args:List AV} {σ:ASt} {R:AV->ASt->Prop} (hl:args.length<=23) (h:c127_7.wp Tryz.prog (RetQ [.t 4] R) (init args) σ):ACalls Tryz.prog 127 args σ R:=acalls_of Tryz.func127 c127_ok hl h
end Go.A
namespace Go.A
open Go.Proofs
def ckT:List Nat := [0,274646895,549293790,820201905,1098587580,1361435347,1640403810,1905808397,2197175160,2460548119,2722870694,2987750089,3280807620,3553878443,3811616794,4084100981]
def nibN (c:Nat):Nat:=(c / 16) ^^^ ckT.getD (c % 16) 0
def stepN (c:Nat) (b:UInt8):Nat:=nibN (nibN (c ^^^ b.toNat))
def addN (c:Nat) (l:List UInt8):Nat:=l.foldl stepN c
def ckN (l:List UInt8):Nat:=4294967295 ^^^ addN 4294967295 l
def le32 (v:Nat):List UInt8 := [UInt8.ofNat v,UInt8.ofNat (v / 256),UInt8.ofNat (v / 65536),UInt8.ofNat (v / 16777216)]
def of32 (l:List UInt8):Nat:=(l.getD 0 0).toNat+(l.getD 1 0).toNat*256+(l.getD 2 0).toNat*65536+(l.getD 3 0).toNat*16777216
theorem ckT_lt:∀ i<16,ckT.getD i 0<4294967296:=by decide
theorem xor_lt {x y:Nat} (hx:x<4294967296) (hy:y<4294967296):x ^^^ y<4294967296:=Nat.xor_lt_two_pow (n:=32) hx hy
theorem nibN_lt {c:Nat} (h:c<4294967296):nibN c<4294967296:=xor_lt (by omega) (ckT_lt _ (by omega))
theorem u8_lt' (b:UInt8):b.toNat<256:=b.toNat_lt
theorem stepN_lt {c:Nat} (h:c<4294967296) (b:UInt8):stepN c b<4294967296:=nibN_lt (nibN_lt (xor_lt h (by have:=u8_lt' b;omega)))
theorem addN_lt (l:List UInt8):∀ {c:Nat},c<4294967296->addN c l<4294967296:=by
 induction l with
 | nil=>intro c h;exact h
 | cons b l ih=>intro c h;exact ih (stepN_lt h b)
theorem ckN_lt (l:List UInt8):ckN l<4294967296:=xor_lt (by decide) (addN_lt l (by decide))
theorem addN_snoc (c:Nat) (l:List UInt8) (b:UInt8):addN c (l ++ [b])=stepN (addN c l) b:=by unfold addN;rw [List.foldl_append];rfl
theorem of_le32 {v:Nat} (h:v<4294967296):of32 (le32 v)=v:=by
 unfold of32 le32
 simp only [List.getD_cons_zero,List.getD_cons_succ,UInt8.toNat_ofNat']
 omega
theorem le32_len (v:Nat):(le32 v).length=4:=rfl
theorem of32_lt {l:List UInt8}:of32 l<4294967296:=by
 unfold of32
 have h0:=u8_lt' (l.getD 0 0)
 have h1:=u8_lt' (l.getD 1 0)
 have h2:=u8_lt' (l.getD 2 0)
 have h3:=u8_lt' (l.getD 3 0)
 omega
def xor32 (x y:Int):Int:=((BitVec.ofInt 32 x ^^^ BitVec.ofInt 32 y).toNat:Int)
def and32 (x y:Int):Int:=((BitVec.ofInt 32 x &&& BitVec.ofInt 32 y).toNat:Int)
def or32 (x y:Int):Int:=((BitVec.ofInt 32 x ||| BitVec.ofInt 32 y).toNat:Int)
theorem wrap_bv (v:BitVec 32):IntKind.wrap .u32 (v.toNat:Int)=v.toNat:=wrap_u32 (by omega) (by have:=v.isLt;omega)
@[go_sem high] theorem binI_xor32 {x y:Int}:binI .xor .u32 x y=some (.int .u32 (xor32 x y)):=by rw [binI_xor];exact congrArg (fun n=>some (AV.int .u32 n)) (wrap_bv _)
@[go_sem high] theorem binI_and32 {x y:Int}:binI .and .u32 x y=some (.int .u32 (and32 x y)):=by rw [binI_and];exact congrArg (fun n=>some (AV.int .u32 n)) (wrap_bv _)
@[go_sem high] theorem binI_or32 {x y:Int}:binI .or .u32 x y=some (.int .u32 (or32 x y)):=by rw [binI_or];exact congrArg (fun n=>some (AV.int .u32 n)) (wrap_bv _)
theorem bxor {x y:Nat} (hx:x<4294967296) (hy:y<4294967296):xor32 x y=(x ^^^ y:Nat):=by
 unfold xor32
 congr 1
 rw [BitVec.toNat_xor,BitVec.ofInt_natCast,BitVec.ofInt_natCast,BitVec.toNat_ofNat,BitVec.toNat_ofNat,Nat.mod_eq_of_lt hx,Nat.mod_eq_of_lt hy]
theorem band15 {x:Nat} (hx:x<4294967296):and32 x 15=(x % 16:Nat):=by
 unfold and32
 congr 1
 rw [BitVec.toNat_and,BitVec.ofInt_natCast,BitVec.toNat_ofNat,Nat.mod_eq_of_lt hx]
 exact Nat.and_two_pow_sub_one_eq_mod x 4
theorem bor {x y:Nat} (hx:x<4294967296) (hy:y<4294967296):or32 x y=(x ||| y:Nat):=by
 unfold or32
 congr 1
 rw [BitVec.toNat_or,BitVec.ofInt_natCast,BitVec.ofInt_natCast,BitVec.toNat_ofNat,BitVec.toNat_ofNat,Nat.mod_eq_of_lt hx,Nat.mod_eq_of_lt hy]
theorem or_add {x y k:Nat} (hx:x<2 ^ k):x ||| (y*2 ^ k)=x+y*2 ^ k:=by
 rw [Nat.or_comm,Nat.mul_comm,← Nat.two_pow_add_eq_or_of_lt hx,Nat.add_comm]
def ckAV:List AV:=ckT.map fun (n:Nat)=>AV.int .u32 (n:Int)
def CkT (σ:ASt):Prop:=σ 1=some (.fix ckAV)
theorem CkT.set {σ:ASt} {b:Nat} {r:Option Role} (h:CkT σ) (hb:σ b=none):CkT (σ.set b r):=by
 unfold CkT at *
 rw [ASt.set_ne]
 ·exact h
 ·rintro rfl;rw [h] at hb;cases hb
theorem ck_get {i:Nat} (h:i<16):ckAV[i]? = some (.int .u32 (ckT.getD i 0:Nat)):=by
 have hl:i<ckT.length:=h
 unfold ckAV
 rw [List.getElem?_map,List.getD_eq_getElem?_getD,List.getElem?_eq_getElem hl]
 rfl
theorem ckstep_ok {σ:ASt} (hσ:CkT σ) {c:Nat} (hc:c<4294967296) (b:UInt8):ACalls Tryz.prog 127 [.int .u32 c,.int .u8 b.toNat] σ fun v σ'=>v = .int .u32 (stepN c b:Nat)/\σ'=σ:=by
 unfold CkT at hσ
 have hb:=u8_lt' b
 have x1:=bxor hc (y:=b.toNat) (by omega)
 have l1:c ^^^ b.toNat<4294967296:=xor_lt hc (by omega)
 have hs:stepN c b=nibN (nibN (c ^^^ b.toNat)):=rfl
 rw [hs]
 generalize c ^^^ b.toNat=d at *
 have a1:=band15 l1
 have g1:=ck_get (i:=d % 16) (by omega)
 have t1:=ckT_lt (d % 16) (by omega)
 have y1:xor32 ((d / 16:Nat):Int) ((ckT.getD (d % 16) 0:Nat):Int)=(nibN d:Nat):=bxor (by omega) t1
 have l2:=nibN_lt l1
 have i1:d % 16<16:=by omega
 have q1:(d:Int) / 16=((d / 16:Nat):Int):=by omega
 generalize nibN d=f at *
 generalize d % 16=i at *
 generalize ckT.getD i 0=u at *
 generalize d / 16=v at *
 have a2:=band15 l2
 have g2:=ck_get (i:=f % 16) (by omega)
 have t2:=ckT_lt (f % 16) (by omega)
 have y2:xor32 ((f / 16:Nat):Int) ((ckT.getD (f % 16) 0:Nat):Int)=(nibN f:Nat):=bxor (by omega) t2
 have l3:=nibN_lt l2
 have i2:f % 16<16:=by omega
 have q2:(f:Int) / 16=((f / 16:Nat):Int):=by omega
 generalize nibN f=g at *
 generalize f % 16=j at *
 generalize ckT.getD j 0=u2 at *
 generalize f / 16=v2 at *
 refine a127 (by simp) ?_
 simp (disch:=first|assumption|omega) only [go_sem,reduceCtorEq,Nat.reduceEqDiff,↓reduceIte,Nat.mul_one,Int.reduceToNat,Int.reducePow,hσ,x1,a1,q1,g1,y1,a2,q2,g2,y2,Int.toNat_natCast,Nat.zero_add,Nat.mul_one]
 exact retC_by (.refl _) (.refl _) ⟨rfl,rfl⟩
theorem ckadd_ok {σ:ASt} (hσ:CkT σ) {c:Nat} (hc:c<4294967296) (s:List UInt8) (hs:s.length<=1000000000):ACalls Tryz.prog 98 [.int .u32 c,.str s] σ fun v σ'=>v = .int .u32 ((4294967295 ^^^ addN (4294967295 ^^^ c) s:Nat))/\σ'=σ:=by
 have hm:(if IntKind.signed .u32=true then -1 else IntKind.max .u32)=4294967295:=rfl
 have x1:xor32 4294967295 c=(4294967295 ^^^ c:Nat):=bxor (x:=4294967295) (by decide) hc
 have l1:4294967295 ^^^ c<4294967296:=xor_lt (by decide) hc
 have hx:∀ i:Nat,i<=s.length->4294967295 ^^^ addN (4294967295 ^^^ c) (s.take i)<4294967296:=fun i _=>xor_lt (by decide) (addN_lt _ l1)
 have ha:∀ i:Nat,addN (4294967295 ^^^ c) (s.take i)<4294967296:=fun i=>addN_lt _ l1
 refine a98 (by simp) ?_
 simp (disch:=first|assumption|omega) only [go_sem,reduceCtorEq,Nat.reduceEqDiff,↓reduceIte,Int.reduceNeg,hm,x1]
 refine wp_loop_on (fun (i:Nat) a1 s2=>i<=s.length/\(a1 1 = .str s/\a1 5 = .int .u32 ((addN (4294967295 ^^^ c) (s.take i):Nat))/\a1 10 = .int .i64 s.length/\a1 11 = .int .i64 i)/\s2=σ) (fun i=>s.length-i) 0 ⟨Nat.zero_le _,?_,rfl⟩ ?_
 ·rw [List.take_zero]
  have e0:addN (4294967295 ^^^ c) []=4294967295 ^^^ c:=rfl
  rw [e0]
  simp (disch:=first|assumption|omega) only [go_sem,Nat.reduceEqDiff,↓reduceIte]
 rintro i a1 s2 ⟨hi,hf,rfl⟩
 by_cases hlt:i<s.length
 ·have hlt':(i:Int)<s.length:=by omega
  have hxx : s[i]? = some (s[i]'hlt) := List.getElem?_eq_getElem hlt
  have hst := ckstep_ok hσ (ha i) (s[i]'hlt)
  have hsn : stepN (addN (4294967295 ^^^ c) (s.take i)) (s[i]'hlt) = addN (4294967295 ^^^ c) (s.take (i + 1)) := by rw [List.take_succ_eq_append_getElem hlt, addN_snoc]
  rw [hsn] at hst
  generalize s[i]'hlt = y at *
  simp (disch:=first|assumption|omega) only [go_sem,Nat.reduceEqDiff,↓reduceIte,hf,hlt',hxx]
  refine hst.mono ?_
  rintro v σ' ⟨rfl,rfl⟩
  simp (disch:=first|assumption|omega) only [go_sem,Nat.reduceEqDiff,↓reduceIte,hf]
  refine ⟨i+1,by omega,by omega,?_,rfl⟩
  simp (disch:=first|assumption|omega) only [go_sem]
 ·have hlt':¬ (i:Int)<s.length:=by omega
  obtain rfl:i=s.length:=by omega
  have ha:=ha s.length
  rw [List.take_of_length_le (Nat.le_refl _)] at hf ha
  have l2:4294967295 ^^^ addN (4294967295 ^^^ c) s<4294967296:=xor_lt (by decide) ha
  generalize addN (4294967295 ^^^ c) s=z at *
  have x2:xor32 4294967295 z=(4294967295 ^^^ z:Nat):=bxor (x:=4294967295) (by decide) ha
  simp (disch:=first|assumption|omega) only [go_sem,Nat.reduceEqDiff,↓reduceIte,Int.reduceNeg,hf,hlt',hm,x2]
  exact retC_by (.refl _) (.refl _) ⟨rfl,rfl⟩
theorem cksum_ok {σ:ASt} (hσ:CkT σ) (s:List UInt8) (hs:s.length<=1000000000):ACalls Tryz.prog 61 [.str s] σ fun v σ'=>v = .int .u32 (ckN s:Nat)/\σ'=σ:=by
 have h:=ckadd_ok hσ (c:=0) (by decide) s hs
 have e:4294967295 ^^^ addN (4294967295 ^^^ 0) s=ckN s:=rfl
 rw [e] at h
 generalize ckN s=z at *
 refine a61 (by simp) ?_
 simp (disch:=first|assumption|omega) only [go_sem,reduceCtorEq,↓reduceIte]
 refine h.mono ?_
 rintro v σ' ⟨rfl,rfl⟩
 simp (disch:=first|assumption|omega) only [go_sem,↓reduceIte]
 exact retC_by (.refl _) (.refl _) ⟨rfl,rfl⟩
theorem ckput_ok {v:Nat} (hv:v<4294967296):Pure Tryz.prog 62 [.int .u32 v] (.str (le32 v)):=by
 intro σ
 have e:∀ n:Nat,IntKind.wrap .u8 (n:Int)=((UInt8.ofNat n).toNat:Int):=fun n=>by rw [IntKind.wrap_u8,UInt8.toNat_ofNat'];omega
 have q1:(v:Int) / 256=((v / 256:Nat):Int):=by omega
 have q2:(v:Int) / 65536=((v / 65536:Nat):Int):=by omega
 have q3:(v:Int) / 16777216=((v / 16777216:Nat):Int):=by omega
 have hb : [AV.int .u8 ((UInt8.ofNat v).toNat:Int),.int .u8 ((UInt8.ofNat (v / 256)).toNat:Int),.int .u8 ((UInt8.ofNat (v / 65536)).toNat:Int),.int .u8 ((UInt8.ofNat (v / 16777216)).toNat:Int)]=bytesAV (le32 v):=rfl
 refine a62 (by simp) ?_
 have hwl:wellSz 1 (bytesAV (le32 v))=true:=rfl
 simp (disch:=first|assumption|omega) only [go_sem,reduceCtorEq,Nat.reduceEqDiff,↓reduceIte,Int.reduceToNat,Int.reducePow,e,q1,q2,q3,hb,hwl]
 exact retC_by (.refl _) (.refl _) ⟨rfl,rfl⟩
theorem ckget_ok {s:List UInt8} (hs:s.length=4):Pure Tryz.prog 60 [.str s] (.tuple [.int .u32 (of32 s:Nat),.bool true]):=by
 intro σ
 match s,hs with
 | [a,b,c,d],_=>
   have ha:=u8_lt' a
   have hb:=u8_lt' b
   have hc:=u8_lt' c
   have hd:=u8_lt' d
   have ho:of32 [a,b,c,d]=a.toNat+b.toNat*256+c.toNat*65536+d.toNat*16777216:=rfl
   rw [ho]
   generalize hna:a.toNat=na at *
   generalize hnb:b.toNat=nb at *
   generalize hnc:c.toNat=nc at *
   generalize hnd:d.toNat=nd at *
   obtain ⟨B,hB⟩:∃ B,B=nb*256:=⟨_,rfl⟩
   obtain ⟨C,hC⟩:∃ C,C=nc*65536:=⟨_,rfl⟩
   obtain ⟨D,hD⟩:∃ D,D=nd*16777216:=⟨_,rfl⟩
   rw [<-hB,← hC,← hD]
   have h1:na ||| B=na+B:=by rw [hB];exact or_add (k:=8) (by omega)
   have h2:(na+B) ||| C=na+B+C:=by rw [hC];exact or_add (k:=16) (by omega)
   have h3:(na+B+C) ||| D=na+B+C+D:=by rw [hD];exact or_add (k:=24) (by omega)
   have m1:(nb:Int)*256=(B:Int):=by omega
   have m2:(nc:Int)*65536=(C:Int):=by omega
   have m3:(nd:Int)*16777216=(D:Int):=by omega
   have o1:or32 na B=((na+B:Nat):Int):=by rw [bor (by omega) (by omega),h1]
   have o2:or32 (na+B:Nat) C=((na+B+C:Nat):Int):=by rw [bor (by omega) (by omega),h2]
   have o3:or32 (na+B+C:Nat) D=((na+B+C+D:Nat):Int):=by rw [bor (by omega) (by omega),h3]
   have l3:na+B+C+D<4294967296:=by omega
   have l2:na+B+C<4294967296:=by omega
   have l1:na+B<4294967296:=by omega
   have bl:B<4294967296/\C<4294967296/\D<4294967296:=by omega
   clear hB hC hD h1 h2 h3
   generalize hX:na+B=X at *
   generalize hY:X+C=Y at *
   generalize hZ:Y+D=Z at *
   obtain ⟨b1,b2,b3⟩:=bl
   refine a60 (by simp) ?_
   simp (disch:=first|assumption|omega) only [go_sem,reduceCtorEq,Nat.reduceEqDiff,Nat.reduceAdd,↓reduceIte,Int.reduceToNat,Int.reducePow,hna,hnb,hnc,hnd,m1,o1,m2,o2,m3,o3]
   exact retC_by (.refl _) (.refl _) ⟨rfl,rfl⟩
theorem ckseal_ok {σ:ASt} (hσ:CkT σ) (s:List UInt8) (hs:s.length<=1000000000):ACalls Tryz.prog 29 [.str s] σ fun v σ'=>v = .str (s++le32 (ckN s))/\σ'=σ:=by
 have h1:=cksum_ok hσ s hs
 have h2:=ckput_ok (ckN_lt s)
 have hl:(le32 (ckN s)).length=4:=rfl
 generalize ckN s=z at *
 have hb:binS .add s (le32 z)=some (.str (s++le32 z)):=binS_add (by omega)
 refine a29 (by simp) ?_
 simp (disch:=first|assumption|omega) only [go_sem,reduceCtorEq,↓reduceIte]
 refine h1.mono ?_
 rintro v σ' ⟨rfl,rfl⟩
 simp (disch:=first|assumption|omega) only [go_sem,↓reduceIte]
 refine h2.use ?_
 simp (disch:=first|assumption|omega) only [go_sem,Nat.reduceEqDiff,↓reduceIte,hb]
 exact retC_by (.refl _) (.refl _) ⟨rfl,rfl⟩
def openP (s:List UInt8):List UInt8×Bool:=if s.length<4 then ([],false) else if of32 (s.drop (s.length-4))=ckN (s.take (s.length-4)) then (s.take (s.length-4),true) else ([],false)
theorem openP_seal (s:List UInt8):openP (s++le32 (ckN s))=(s,true):=by
 unfold openP
 have hl:(s++le32 (ckN s)).length=s.length+4:=by rw [List.length_append];rfl
 have e:s.length+4-4=s.length:=by omega
 rw [hl,if_neg (by omega),e,List.drop_left,List.take_left,of_le32 (ckN_lt s),if_pos rfl]
theorem ckopen_ok {σ:ASt} (hσ:CkT σ) (s:List UInt8) (hs:s.length<=1000000000):ACalls Tryz.prog 28 [.str s] σ fun v σ'=>v = .tuple [.str (openP s).1,.bool (openP s).2]/\σ'=σ:=by
 obtain ⟨q,hq⟩:∃ q,openP s=q:=⟨_,rfl⟩
 rw [hq]
 unfold openP at hq
 by_cases h:s.length<4
 ·rw [if_pos h] at hq
  subst hq
  have h':(s.length:Int)-4<0:=by omega
  refine a28 (by simp) ?_
  simp (disch:=first|assumption|omega) only [go_sem,reduceCtorEq,Nat.reduceEqDiff,↓reduceIte,h']
  exact retC_by (.refl _) (.refl _) ⟨rfl,rfl⟩
 ·rw [if_neg h] at hq
  obtain ⟨n,hn⟩:∃ n:Nat,s.length-4=n:=⟨_,rfl⟩
  have hsn:(s.length:Int)-4=n:=by omega
  rw [hn] at hq
  have hd:(s.drop n).length=4:=by rw [List.length_drop];omega
  have h1:=ckget_ok hd
  have h2:=cksum_ok hσ (s.take n) (by rw [List.length_take];omega)
  have hnl:(n:Int)<=s.length:=by omega
  have htk:s.take s.length=s:=List.take_of_length_le (Nat.le_refl _)
  have hl1:of32 (s.drop n)<4294967296:=of32_lt
  have hl2:=ckN_lt (s.take n)
  have hnn:¬ (n:Int)<0:=by omega
  by_cases g:of32 (s.drop n)=ckN (s.take n)
  ·rw [if_pos g] at hq
   subst hq
   rw [<-g] at h2
   generalize of32 (s.drop n)=z at *
   refine a28 (by simp) ?_
   simp (disch:=first|assumption|omega) only [go_sem,reduceCtorEq,Nat.reduceEqDiff,↓reduceIte,hsn,hnn,Int.toNat_natCast,htk]
   refine h1.use ?_
   simp (disch:=first|assumption|omega) only [go_sem,reduceCtorEq,Nat.reduceEqDiff,↓reduceIte,Int.toNat_natCast,List.drop_zero]
   refine h2.mono ?_
   rintro v σ' ⟨rfl,rfl⟩
   simp (disch:=first|assumption|omega) only [go_sem,reduceCtorEq,Nat.reduceEqDiff,↓reduceIte,Int.toNat_natCast,List.drop_zero]
   exact retC_by (.refl _) (.refl _) ⟨rfl,rfl⟩
  ·rw [if_neg g] at hq
   subst hq
   have g':¬ ((of32 (s.drop n):Nat):Int)=((ckN (s.take n):Nat):Int):=by omega
   generalize of32 (s.drop n)=z at *
   generalize ckN (s.take n)=y at *
   refine a28 (by simp) ?_
   simp (disch:=first|assumption|omega) only [go_sem,reduceCtorEq,Nat.reduceEqDiff,↓reduceIte,hsn,hnn,Int.toNat_natCast,htk]
   refine h1.use ?_
   simp (disch:=first|assumption|omega) only [go_sem,reduceCtorEq,Nat.reduceEqDiff,↓reduceIte,Int.toNat_natCast,List.drop_zero]
   refine h2.mono ?_
   rintro v σ' ⟨rfl,rfl⟩
   simp (disch:=first|assumption|omega) only [go_sem,Nat.reduceEqDiff,↓reduceIte,g']
   exact retC_by (.refl _) (.refl _) ⟨rfl,rfl⟩
end Go.A
namespace Go.A
open Go.Proofs
/-! 95: tabular/disk.word -/
def c95_7:ACode := .seq (.ops [ oq 2 (.mv (.v (.str [])))]) (.seq (.ops [ oe 3 (.alloc [(.int .u8 0),(.int .u8 0),(.int .u8 0),(.int .u8 0)])]) (.seq (.ops [ oq 4 (.sla 4 (.t 3)),oq 5 (.mv (.t 0)),oe 6 (.call 97 [(.t 4),(.t 5)])]) (.seq (.ops [ oq 7 (.sla 4 (.t 3)),oq 8 (.b2s (.t 7)),oq 2 (.mv (.t 8))]) .ret)))
@[go_sem] def c95_7_wp:=wp_of c95_7.eq_1
def c95:AFn:=⟨9,[.t 2],c95_7⟩
theorem c95_ok:compF Tryz.prog Tryz.f95=some c95:=by kernel_rfl
theorem a95 {args:List AV} {σ:ASt} {R:AV->ASt->Prop} (hl:args.length<=9) (h:c95_7.wp Tryz.prog (RetQ [.t 2] R) (init args) σ):ACalls Tryz.prog 95 args σ R:=acalls_of Tryz.func95 c95_ok hl h
/-! 97: tabular/vint.PutU32 -/
def c97_10:ACode := .seq (.ops [ oq 6 (.bin .lss (.t 5) (.v (.int .i64 4)))]) (.seq (.cond (.t 6) .skip (.exit 0)) (.seq (.block 1 (.seq (.ops [ oq 7 (.mv (.t 5)),oq 4 (.mv (.t 7))]) (.ops [ oq 8 (.mv (.t 0)),oq 9 (.mv (.t 4)),oq 10 (.mv (.t 1)),oq 11 (.mv (.t 4)),oq 12 (.bin .mul (.v (.int .i64 8)) (.t 11)),oq 13 (.bin .shr (.t 10) (.t 12)),oq 14 (.conv .u8 (.t 13)),oq 15 (.ia 1 (.t 8) (.t 9)),oz (.store 1 (.t 15) (.t 14))]))) (.ops [ oq 16 (.bin .add (.t 5) (.v (.int .i64 1))),oq 5 (.mv (.t 16))])))
def c97_13:ACode := .seq (.ops [ oq 5 (.mv (.v (.int .i64 0)))]) (.block 0 (.loop c97_10))
@[go_sem] def c97_10_wp:=wp_of c97_10.eq_1
@[go_sem] def c97_13_wp:=wp_of c97_13.eq_1
def c97:AFn:=⟨17,[],c97_13⟩
theorem c97_ok:compF Tryz.prog Tryz.f97=some c97:=by kernel_rfl
theorem a97 {args:List AV} {σ:ASt} {R:AV->ASt->Prop} (hl:args.length<=17) (h:c97_13.wp Tryz.prog (RetQ [] R) (init args) σ):ACalls Tryz.prog 97 args σ R:=acalls_of Tryz.func97 c97_ok hl h
end Go.A
namespace Go.A
open Go.Proofs
def spl {α:Type} (cs:List α) (o:Nat) (ys:List α):List α:=cs.take o++ys++cs.drop (o+ys.length)
theorem splice_spl (cs ys:List AV) (o:Nat):splice cs o ys.length ys=spl cs o ys:=rfl
theorem spl_len {α:Type} {cs ys:List α} {o:Nat} (h:o+ys.length<=cs.length):(spl cs o ys).length=cs.length:=by
 unfold spl
 rw [List.length_append,List.length_append,List.length_take,List.length_drop]
 omega
theorem spl_nil {α:Type} (cs:List α) (o:Nat):spl cs o []=cs:=by
 unfold spl
 rw [List.append_nil,List.length_nil,Nat.add_zero,List.take_append_drop]
theorem spl_step {α:Type} {cs ys:List α} {o i:Nat} {y:α} (h:o+ys.length<=cs.length) (hy:ys[i]? = some y):(spl cs o (ys.take i)).take (o+i) ++ [y]++(spl cs o (ys.take i)).drop (o+i+1)=spl cs o (ys.take (i+1)):=by
 obtain ⟨hi,rfl⟩:=List.getElem?_eq_some_iff.1 hy
 have e1:(cs.take o).length=o:=by rw [List.length_take];omega
 have e2:(ys.take i).length=i:=by rw [List.length_take];omega
 have e3:(ys.take (i+1)).length=i+1:=by rw [List.length_take];omega
 have e4:(cs.take o++ys.take i).length=o+i:=by rw [List.length_append,e1,e2]
 unfold spl
 rw [e2,e3]
 have a1:(cs.take o++ys.take i++cs.drop (o+i)).take (o+i)=cs.take o++ys.take i:=by rw [<-e4,List.take_left]
 have a2:(cs.take o++ys.take i++cs.drop (o+i)).drop (o+i+1)=cs.drop (o+(i+1)):=by rw [<-List.drop_drop,← e4,List.drop_left,e4,List.drop_drop];rfl
 rw [a1,a2,List.take_succ_eq_append_getElem hi,← List.append_assoc]
theorem w_ofNat (n:Nat):IntKind.wrap .u8 (n:Int)=((UInt8.ofNat n).toNat:Int):=by rw [IntKind.wrap_u8,UInt8.toNat_ofNat'];omega
theorem le32_get {v i:Nat} (h:i<4):(bytesAV (le32 v))[i]? = some (.int .u8 ((UInt8.ofNat (v / 2 ^ (8*i))).toNat:Int)):=by
 have:i=0\/i=1\/i=2\/i=3:=by omega
 rcases this with rfl|rfl|rfl|rfl
 ·show some _=some _
  rw [show v / 2 ^ (8*0)=v from by simp]
 all_goals rfl
theorem putU32_ok {σ:ASt} {B o n c:Nat} {cs:List AV} (hB:σ B=some (.obj cs)) (ho:o+4<=cs.length) (hn:4<=n) {v:Nat} (hv:v<4294967296) :
  ACalls Tryz.prog 97 [.msl B o n c,.int .u32 v] σ fun r σ'=>r = .tuple []/\σ'=σ.set B (some (.obj (spl cs o (bytesAV (le32 v))))):=by
 have bits:IntKind.bits .u32=32:=rfl
 have hl:(bytesAV (le32 v)).length=4:=rfl
 have hst:=fun i y=>spl_step (cs:=cs) (ys:=bytesAV (le32 v)) (o:=o) (i:=i) (y:=y) (by rw [hl];exact ho)
 have hlen:∀ i,(spl cs o ((bytesAV (le32 v)).take i)).length=cs.length:=fun i=>spl_len (by rw [List.length_take,hl];omega)
 refine a97 (by simp) ?_
 simp (disch:=first|assumption|omega) only [go_sem]
 refine wp_loop_on (fun (i:Nat) a1 s2=>i<=4/\(a1 0 = .msl B o n c/\a1 1 = .int .u32 v/\a1 5 = .int .i64 i)/\s2=σ.set B (some (.obj (spl cs o ((bytesAV (le32 v)).take i))))) (fun i=>4-i) 0 ⟨by omega,?_,?_⟩ ?_
 ·simp (disch:=first|assumption|omega) only [go_sem,reduceCtorEq,Nat.reduceEqDiff,↓reduceIte]
 ·rw [List.take_zero,spl_nil]
  funext x
  by_cases hx:x=B
  ·rw [hx,ASt.set_same,hB]
  ·rw [ASt.set_ne hx]
 rintro i a1 s2 ⟨hi,hf,rfl⟩
 by_cases hlt:i<4
 ·have hlt':(i:Int)<4:=by omega
  have g:=le32_get (v:=v) hlt
  have e8:(8*(i:Int)).toNat=8*i:=by omega
  have m8:8*i<=32:=by omega
  have p8:0<=8*(i:Int):=by omega
  have q:(v:Int) / 2 ^ (8*i)=((v / 2 ^ (8*i):Nat):Int):=by
   have:i=0\/i=1\/i=2\/i=3:=by omega
   rcases this with rfl|rfl|rfl|rfl<;>simp
  have hs:=hst i _ g
  have hw:=w_ofNat (v / 2 ^ (8*i))
  have hll:=hlen i
  have hle:o+i+1<=(spl cs o ((bytesAV (le32 v)).take i)).length:=by omega
  generalize spl cs o ((bytesAV (le32 v)).take i)=M1 at *
  have hin:(i:Int)<(n:Int):=by omega
  have ei:o+i*1=o+i:=by omega
  simp (disch:=first|assumption|omega) only [go_sem,reduceCtorEq,Nat.reduceEqDiff,↓reduceIte,Nat.mul_one,Bool.true_and,hf,hlt',e8,q,hw,Int.toNat_natCast,Nat.mul_one,hle,hs,ASt.set_set]
  refine ⟨i+1,by omega,by omega,?_,rfl⟩
  simp (disch:=first|assumption|omega) only [go_sem]
 ·have hlt':¬ (i:Int)<4:=by omega
  obtain rfl:i=4:=by omega
  rw [List.take_of_length_le (by omega)]
  simp (disch:=first|assumption|omega) only [go_sem,Nat.reduceSub,Int.reduceLT,↓reduceIte,hf]
  exact retC_by (.refl _) (.refl _) ⟨rfl,rfl⟩
theorem dkword_ok {v:Nat} (hv:v<4294967296):Pure Tryz.prog 95 [.int .u32 v] (.str (le32 v)):=by
 intro σ
 refine a95 (by simp) ?_
 simp (disch:=first|assumption|omega) only [go_sem]
 refine allocC_by fun b hb=>?_
 have hp:=putU32_ok (σ:=σ.set b (some (.obj [.int .u8 0,.int .u8 0,.int .u8 0,.int .u8 0]))) (B:=b) (o:=0) (n:=4) (c:=4) (ASt.set_same _ _ _) (by decide) (by decide) hv
 have e:spl [AV.int .u8 0,.int .u8 0,.int .u8 0,.int .u8 0] 0 (bytesAV (le32 v))=bytesAV (le32 v):=rfl
 have et:(bytesAV (le32 v)).take 4=bytesAV (le32 v):=rfl
 rw [e,ASt.set_set] at hp
 simp (disch:=first|assumption|omega) only [go_sem,reduceCtorEq,Nat.reduceEqDiff,↓reduceIte]
 refine hp.mono ?_
 rintro r σ' ⟨rfl,rfl⟩
 have l4:4<=(le32 v).length:=Nat.le_refl _
 simp (disch:=first|assumption|omega) only [go_sem,Nat.reduceEqDiff,↓reduceIte,List.drop_zero,et,l4]
 exact retC_by (Drop.set hb) (.refl _) ⟨rfl,rfl⟩
end Go.A
namespace Go.A
open Go.Proofs
/-! 56: (*tabular/disk.Disk).Room -/
def c56_3:ACode := .seq (.ops [ oq 2 (.mv (.v (.int .i64 0)))]) (.seq (.ops [ oq 3 (.mv (.t 0)),oq 4 (.nc (.t 3)),oq 5 (.fa 1 (.t 4)),oq 6 (.ld none (.t 5)),oq 7 (.mv (.t 0)),oq 10 (.mv (.t 0)),oq 11 (.nc (.t 10)),oq 12 (.fa 2 (.t 11)),oq 13 (.ld none (.t 12)),oq 14 (.len (.t 13)),⟨some 8,none,.e (.call 58 [(.t 7)]),[⟨none,.ld none (.t 5),6⟩,⟨none,.ld none (.t 12),13⟩]⟩,oq 9 (.bin .sub (.t 6) (.t 8)),oq 15 (.bin .add (.t 9) (.t 14)),oq 2 (.mv (.t 15))]) .ret)
@[go_sem] def c56_3_wp:=wp_of c56_3.eq_1
def c56:AFn:=⟨16,[.t 2],c56_3⟩
theorem c56_ok:compF Tryz.prog Tryz.f56=some c56:=by kernel_rfl
theorem a56 {args:List AV} {σ:ASt} {R:AV->ASt->Prop} (hl:args.length<=16) (h:c56_3.wp Tryz.prog (RetQ [.t 2] R) (init args) σ):ACalls Tryz.prog 56 args σ R:=acalls_of Tryz.func56 c56_ok hl h
/-! 57: (*tabular/disk.Disk).fail -/
def c57_16:ACode := .seq (.ops [ oq 4 (.mv (.v (.int .i64 0)))]) (.seq (.seq (.ops [ oq 5 (.mv (.t 1)),oq 6 (.nc (.t 5)),oq 7 (.ld none (.t 6)),oq 8 (.bin .eql (.t 7) (.v (.int .i64 0)))]) (.cond (.t 8) (.seq (.ops [ oq 9 (.mv (.t 1)),oq 10 (.nc (.t 9)),oz (.store 1 (.t 10) (.v (.int .i64 (-1))))]) (.seq (.ops [ oq 4 (.mv (.v (.int .i64 7)))]) .ret)) .skip)) (.seq (.seq (.ops [ oq 11 (.mv (.t 1)),oq 12 (.nc (.t 11)),oq 13 (.ld none (.t 12)),oq 14 (.bin .gtr (.t 13) (.v (.int .i64 0)))]) (.cond (.t 14) (.ops [ oq 15 (.mv (.t 1)),oq 16 (.nc (.t 15)),oq 17 (.ld none (.t 16)),oq 18 (.bin .sub (.t 17) (.v (.int .i64 1))),oq 19 (.nc (.t 15)),oz (.store 1 (.t 19) (.t 18))]) .skip)) (.seq (.ops [ oq 4 (.mv (.v (.int .i64 0)))]) .ret)))
@[go_sem] def c57_16_wp:=wp_of c57_16.eq_1
def c57:AFn:=⟨20,[.t 4],c57_16⟩
theorem c57_ok:compF Tryz.prog Tryz.f57=some c57:=by kernel_rfl
theorem a57 {args:List AV} {σ:ASt} {R:AV->ASt->Prop} (hl:args.length<=20) (h:c57_16.wp Tryz.prog (RetQ [.t 4] R) (init args) σ):ACalls Tryz.prog 57 args σ R:=acalls_of Tryz.func57 c57_ok hl h
/-! 58: (*tabular/disk.Disk).Count -/
def c58_3:ACode := .seq (.ops [ oq 2 (.mv (.v (.int .i64 0)))]) (.seq (.ops [ oq 3 (.mv (.t 0)),oq 4 (.nc (.t 3)),oq 5 (.fa 0 (.t 4)),oq 6 (.ld none (.t 5)),oq 7 (.len (.t 6)),oq 8 (.bin .quo (.t 7) (.v (.int .i64 512))),oq 2 (.mv (.t 8))]) .ret)
@[go_sem] def c58_3_wp:=wp_of c58_3.eq_1
def c58:AFn:=⟨9,[.t 2],c58_3⟩
theorem c58_ok:compF Tryz.prog Tryz.f58=some c58:=by kernel_rfl
theorem a58 {args:List AV} {σ:ASt} {R:AV->ASt->Prop} (hl:args.length<=9) (h:c58_3.wp Tryz.prog (RetQ [.t 2] R) (init args) σ):ACalls Tryz.prog 58 args σ R:=acalls_of Tryz.func58 c58_ok hl h
end Go.A
namespace Go.A
open Go.Proofs
structure Dsk where
 b:List UInt8
 most:Int
 free:List Nat
 isF:List Bool
 rl:Int
 wl:Int
 rd:Int
 pt:Int
def bodyB (p:Nat) (s:List UInt8):List UInt8:=le32 p++s++List.replicate (504-s.length) 0
def pageB (p:Nat) (s:List UInt8):List UInt8:=le32 (ckN (bodyB p s))++bodyB p s
def layP (b:List UInt8) (p:Nat) (s:List UInt8):List UInt8:=b.take (p*512)++pageB p s++b.drop ((p+1)*512)
theorem pageB_len {p:Nat} {s:List UInt8} (h:s.length<=504):(pageB p s).length=512:=by
 unfold pageB bodyB
 simp only [List.length_append,le32_len,List.length_replicate]
 omega
theorem layP_len {b:List UInt8} {p:Nat} {s:List UInt8} (h:s.length<=504) (hp:(p+1)*512<=b.length):(layP b p s).length=b.length:=by
 unfold layP
 rw [List.length_append,List.length_append,pageB_len h,List.length_take,List.length_drop]
 omega
structure Dsk.ok (D:Dsk):Prop where
 len:D.b.length=D.isF.length*512
 one:1<=D.isF.length
 most:D.isF.length<=D.most/\D.most<=60000
 free:∀ p∈D.free,p<D.isF.length
 few:D.free.length<=D.isF.length
 rl : -1<=D.rl/\D.rl<=1000000000
 wl : -1<=D.wl/\D.wl<=1000000000
 rd:0<=D.rd/\D.rd<=1000000000
 pt:0<=D.pt/\D.pt<=1000000000
def Dsk.cs (D:Dsk) (B cB:Nat) (fv:AV) (I cI:Nat):List AV := [.msl B 0 D.b.length cB,.int .i64 D.most,fv,.msl I 0 D.isF.length cI,.int .i64 D.rl,.int .i64 D.wl,.int .i64 D.rd,.int .i64 D.pt]
def freeV (l:List Nat):List AV:=l.map fun (n:Nat)=>AV.int .i64 (n:Int)
structure DM (σ0:ASt) (d:Nat) (D:Dsk) (σ:ASt) (B cB:Nat) (rB:List AV) (fv:AV) (F:Nat) (I cI:Nat) (rI:List AV):Prop where
 hd:σ d=some (.obj (D.cs B cB fv I cI))
 hB:σ B=some (.obj (bytesAV D.b++rB))
 hI:σ I=some (.obj (D.isF.map AV.bool++rI))
 cB:D.b.length<=cB/\rB.length=cB-D.b.length
 cI:D.isF.length<=cI/\rI.length=cI-D.isF.length
 hF:(D.free = []/\fv = .sl .full []/\F=d)\/∃ cF rF,fv = .msl F 0 D.free.length cF/\σ F=some (.obj (freeV D.free++rF))/\D.free.length<=cF/\rF.length=cF-D.free.length/\F≠d/\F≠B/\F≠I/\σ0 F=none
 n1:d≠B
 n2:d≠I
 n3:B≠I
 z1:σ0 d=none
 z2:σ0 B=none
 z3:σ0 I=none
 out:∀ x,x≠d->x≠B->x≠I->x≠F->σ0 x=σ x\/σ0 x=none
def DiskAt (σ0:ASt) (d:Nat) (D:Dsk) (σ:ASt):Prop:=∃ B cB rB fv F I cI rI,DM σ0 d D σ B cB rB fv F I cI rI
theorem DM.zF {σ0 σ:ASt} {d B cB F I cI:Nat} {D:Dsk} {rB rI:List AV} {fv:AV} (h:DM σ0 d D σ B cB rB fv F I cI rI):σ0 F=none:=by
 rcases h.hF with ⟨_,_,rfl⟩|⟨_,_,_,_,_,_,_,_,_,h2⟩
 ·exact h.z1
 ·exact h2
theorem DM.drop {σ0 σ:ASt} {d B cB F I cI:Nat} {D:Dsk} {rB rI:List AV} {fv:AV} (h:DM σ0 d D σ B cB rB fv F I cI rI):Drop σ σ0:=by
 intro x
 by_cases h1:x=d
 ·rw [h1];exact .inr h.z1
 by_cases h2:x=B
 ·rw [h2];exact .inr h.z2
 by_cases h3:x=I
 ·rw [h3];exact .inr h.z3
 by_cases h4:x=F
 ·rw [h4];exact .inr h.zF
 exact h.out x h1 h2 h3 h4
theorem DiskAt.drop {σ0 σ:ASt} {d:Nat} {D:Dsk} (h:DiskAt σ0 d D σ):Drop σ σ0:=by
 obtain ⟨B,cB,rB,fv,F,I,cI,rI,h⟩:=h
 exact h.drop
theorem DM.at {σ0 σ:ASt} {d B cB F I cI:Nat} {D:Dsk} {rB rI:List AV} {fv:AV} (h:DM σ0 d D σ B cB rB fv F I cI rI) {x:Nat} {r:Role} (hx:σ0 x=some r):σ x=some r:=by
 have hne:∀ y,σ0 y=none->x≠y:=fun y hy he=>by rw [he,hy] at hx;cases hx
 rcases h.out x (hne _ h.z1) (hne _ h.z2) (hne _ h.z3) (hne _ h.zF) with h1|h1
 ·rw [<-h1];exact hx
 ·rw [h1] at hx;cases hx
theorem DiskAt.at {σ0 σ:ASt} {d:Nat} {D:Dsk} (h:DiskAt σ0 d D σ) {x:Nat} {r:Role} (hx:σ0 x=some r):σ x=some r:=by
 obtain ⟨B,cB,rB,fv,F,I,cI,rI,h⟩:=h
 exact h.at hx
theorem DM.cells {σ0 σ:ASt} {d B cB F I cI:Nat} {D D':Dsk} {rB rI:List AV} {fv:AV} (h:DM σ0 d D σ B cB rB fv F I cI rI) (hb:D'.b=D.b) (hf:D'.free=D.free) (hi:D'.isF=D.isF):DM σ0 d D' (σ.set d (some (.obj (D'.cs B cB fv I cI)))) B cB rB fv F I cI rI:=by
 have hF:=h.hF
 refine ⟨ASt.set_same _ _ _,?_,?_,by rw [hb];exact h.cB,by rw [hi];exact h.cI,?_,h.n1,h.n2,h.n3,h.z1,h.z2,h.z3,?_⟩
 ·rw [ASt.set_ne (Ne.symm h.n1),hb];exact h.hB
 ·rw [ASt.set_ne (Ne.symm h.n2),hi];exact h.hI
 ·rcases hF with ⟨h1,h2,h3⟩|⟨cF,rF,h1,h2,h3,h4,h5,h6,h7,h8⟩
  ·exact .inl ⟨hf.trans h1,h2,h3⟩
  ·rw [hf];exact .inr ⟨cF,rF,h1,by rw [ASt.set_ne h5];exact h2,h3,h4,h5,h6,h7,h8⟩
 ·intro x h1 h2 h3 h4
  rw [ASt.set_ne h1];exact h.out x h1 h2 h3 h4
section
variable {σ0 σ:ASt} {d B cB F I cI:Nat} {D:Dsk} {rB rI:List AV} {fv:AV}
theorem dkcount_ok (h:DM σ0 d D σ B cB rB fv F I cI rI) (ho:D.ok):ACalls Tryz.prog 58 [.ptr d 0] σ fun v σ'=>v = .int .i64 D.isF.length/\σ'=σ:=by
 have hd:=h.hd
 have hl:=ho.len
 have hm:=ho.most
 unfold Dsk.cs at hd
 have e:((D.b.length:Nat):Int).tdiv 512=(D.isF.length:Int):=by
  rw [hl,Int.natCast_mul]
  exact Int.mul_tdiv_cancel _ (by decide)
 refine a58 (by simp) ?_
 simp (disch:=first|assumption|omega) only [go_sem,reduceCtorEq,↓reduceIte,hd,e]
 exact retC_by (.refl _) (.refl _) ⟨rfl,rfl⟩
theorem dkroom_ok (h:DM σ0 d D σ B cB rB fv F I cI rI) (ho:D.ok):ACalls Tryz.prog 56 [.ptr d 0] σ fun v σ'=>v = .int .i64 (D.most-D.isF.length+D.free.length)/\σ'=σ:=by
 have hd:=h.hd
 have hm:=ho.most
 have hw:=ho.few
 have hc:=dkcount_ok h ho
 unfold Dsk.cs at hd
 rcases h.hF with ⟨h1,h2,_⟩|⟨cF,rF,h1,_⟩
 ·rw [h1]
  rw [h2] at hd
  refine a56 (by simp) ?_
  simp (disch:=first|assumption|omega) only [go_sem,reduceCtorEq,Nat.reduceEqDiff,↓reduceIte,hd]
  refine hc.mono ?_
  rintro v σ' ⟨rfl,rfl⟩
  simp (disch:=first|assumption|omega) only [go_sem,Nat.reduceEqDiff,↓reduceIte,hd]
  exact retC_by (.refl _) (.refl _) ⟨rfl,rfl⟩
 ·rw [h1] at hd
  refine a56 (by simp) ?_
  simp (disch:=first|assumption|omega) only [go_sem,reduceCtorEq,Nat.reduceEqDiff,↓reduceIte,hd]
  refine hc.mono ?_
  rintro v σ' ⟨rfl,rfl⟩
  simp (disch:=first|assumption|omega) only [go_sem,Nat.reduceEqDiff,↓reduceIte,hd]
  exact retC_by (.refl _) (.refl _) ⟨rfl,rfl⟩
def failD (l:Int):Int×Int:=if l=0 then (-1,7) else if 0<l then (l-1,0) else (l,0)
theorem dkfailW_ok (h:DM σ0 d D σ B cB rB fv F I cI rI) (ho:D.ok):ACalls Tryz.prog 57 [.ptr d 0,.ptr d 5] σ fun v σ'=>v = .int .i64 (failD D.wl).2/\σ'=σ.set d (some (.obj ({ D with wl:=(failD D.wl).1 }.cs B cB fv I cI))):=by
 have hd:=h.hd
 have hw:=ho.wl
 have hset:σ.set d (some (.obj (D.cs B cB fv I cI)))=σ:=by
  funext x
  by_cases hx:x=d
  ·rw [hx,ASt.set_same,hd]
  ·rw [ASt.set_ne hx]
 unfold Dsk.cs at hd hset ⊢
 unfold failD
 by_cases g:D.wl=0
 ·rw [if_pos g]
  refine a57 (by simp) ?_
  simp (disch:=first|assumption|omega) only [go_sem,Nat.reduceEqDiff,Nat.reduceAdd,Nat.reduceLeDiff,↓reduceIte,Int.reduceNeg,Bool.true_and,hd,g]
  exact retC_by (.refl _) (.refl _) ⟨rfl,rfl⟩
 ·rw [if_neg g]
  by_cases g2:0<D.wl
  ·rw [if_pos g2]
   refine a57 (by simp) ?_
   simp (disch:=first|assumption|omega) only [go_sem,Nat.reduceEqDiff,Nat.reduceAdd,Nat.reduceLeDiff,↓reduceIte,Bool.true_and,hd,g,g2]
   exact retC_by (.refl _) (.refl _) ⟨rfl,rfl⟩
  ·rw [if_neg g2]
   refine a57 (by simp) ?_
   simp (disch:=first|assumption|omega) only [go_sem,Nat.reduceEqDiff,↓reduceIte,hd,g,g2]
   exact retC_by (.refl _) (.refl _) ⟨rfl,hset.symm⟩
end
end Go.A
namespace Go.A
open Go.Proofs
/-! 59: (*tabular/disk.Disk).lay -/
def c59_4:ACode := .ops [ oq 31 (.mv (.t 6)),oq 32 (.mv (.t 6)),oq 33 (.slfrom (false,1) (.t 32) (.v (.int .i64 4))),oq 34 (.b2s (.t 33)),oe 35 (.call 61 [(.t 34)]),oe 36 (.call 62 [(.t 35)]),oe 37 (.cpy (.t 31) (.t 36))]
def c59_8:ACode := .seq (.ops [ oq 7 (.mv (.t 0)),oq 8 (.nc (.t 7)),oq 9 (.fa 0 (.t 8)),oq 10 (.ld none (.t 9)),oq 11 (.mv (.t 1)),oq 12 (.bin .mul (.t 11) (.v (.int .i64 512))),oq 13 (.mv (.t 1)),oq 14 (.bin .add (.t 13) (.v (.int .i64 1))),oq 15 (.bin .mul (.t 14) (.v (.int .i64 512))),oq 16 (.sls (false,1) (.t 10) (.t 12) (.t 15)),oq 6 (.mv (.t 16))]) (.seq (.ops [ oq 17 (.mv (.t 6)),oq 18 (.slfrom (false,1) (.t 17) (.v (.int .i64 4))),oq 19 (.mv (.t 1)),oq 20 (.conv .u32 (.t 19)),oe 21 (.call 97 [(.t 18),(.t 20)])]) (.seq (.ops [ oq 22 (.mv (.t 6)),oq 23 (.slfrom (false,1) (.t 22) (.v (.int .i64 8))),oq 24 (.mv (.t 2)),oe 25 (.cpy (.t 23) (.t 24))]) (.seq (.ops [ oq 26 (.mv (.t 6)),oq 27 (.mv (.t 2)),oq 28 (.lenS (.t 27)),oq 29 (.bin .add (.v (.int .i64 8)) (.t 28)),oq 30 (.slfrom (false,1) (.t 26) (.t 29)),oz (.clr [(.int .u8 0)] (.t 30))]) c59_4)))
@[go_sem] def c59_4_wp:=wp_of c59_4.eq_1
@[go_sem] def c59_8_wp:=wp_of c59_8.eq_1
def c59:AFn:=⟨38,[],c59_8⟩
theorem c59_ok:compF Tryz.prog Tryz.f59=some c59:=by kernel_rfl
theorem a59 {args:List AV} {σ:ASt} {R:AV->ASt->Prop} (hl:args.length<=38) (h:c59_8.wp Tryz.prog (RetQ [] R) (init args) σ):ACalls Tryz.prog 59 args σ R:=acalls_of Tryz.func59 c59_ok hl h
end Go.A
namespace Go.A
open Go.Proofs
theorem kbytes_app (l m:List UInt8):bytesAV (l++m)=bytesAV l++bytesAV m:=by simp [bytesAV]
theorem kbytes_len (l:List UInt8):(bytesAV l).length=l.length:=by simp [bytesAV]
theorem mem_spl {l x y z ys:List UInt8} {r:List AV} {o:Nat} (h:l=x++y++z) (hy:y.length=ys.length) (ho:x.length=o):spl (bytesAV l++r) o (bytesAV ys)=bytesAV (x++ys++z)++r:=by
 subst ho h
 unfold spl
 rw [kbytes_len,kbytes_app,kbytes_app,kbytes_app,kbytes_app]
 have e1:(bytesAV x++bytesAV y++bytesAV z++r).take x.length=bytesAV x:=by
  rw [List.append_assoc,List.append_assoc,← kbytes_len x,List.take_left]
 have e2:(bytesAV x++bytesAV y++bytesAV z++r).drop (x.length+ys.length)=bytesAV z++r:=by
  have hl:x.length+ys.length=(bytesAV x++bytesAV y).length:=by rw [List.length_append,kbytes_len,kbytes_len,hy]
  rw [hl,List.append_assoc (bytesAV x++bytesAV y),List.drop_left]
 rw [e1,e2]
 simp only [List.append_assoc]
theorem mem_get {l x y z:List UInt8} {r:List AV} {o n:Nat} (h:l=x++y++z) (ho:x.length=o) (hn:y.length=n):((bytesAV l++r).drop o).take n=bytesAV y:=by
 subst ho hn h
 rw [kbytes_app,kbytes_app]
 have e1:(bytesAV x++bytesAV y++bytesAV z++r).drop x.length=bytesAV y++(bytesAV z++r):=by
  rw [List.append_assoc,List.append_assoc,← kbytes_len x,List.drop_left]
 rw [e1,← kbytes_len y,List.take_left]
theorem slV_end {s b o n c:Nat} {lo hi:Int} (h0:0<=lo) (h1:lo<=hi) (h2:hi<=c) (h3:lo=c):slV (false,s) (.msl b o n c) lo hi=some (.msl b o (hi.toNat-lo.toNat) (c-lo.toNat)):=by
 unfold slV
 rw [if_neg (by omega)]
 dsimp only
 rw [if_pos h2,if_pos h3]
section
variable {σ0 σ:ASt} {d B cB F I cI:Nat} {D:Dsk} {rB rI:List AV} {fv:AV}
set_option maxHeartbeats 1000000 in
theorem dklay_ok (hT:CkT σ) (h:DM σ0 d D σ B cB rB fv F I cI rI) (ho:D.ok) {p:Nat} (hp:p<D.isF.length) {s:List UInt8} (hs:s.length<=504) :
  ACalls Tryz.prog 59 [.ptr d 0,.int .i64 p,.str s] σ fun v σ'=>v = .tuple []/\σ'=σ.set B (some (.obj (bytesAV (layP D.b p s)++rB))):=by
 have hd:=h.hd
 have hB:=h.hB
 have hm:=ho.most
 have hbl:=ho.len
 obtain ⟨hc1,hc2⟩:=h.cB
 have hdB:d≠B:=h.n1
 unfold Dsk.cs at hd
 unfold CkT at hT
 have hgB:1≠B:=by rintro he;rw [<-he,hT] at hB;cases hB
 have hCk:∀ r,CkT (σ.set B r):=fun r=>by unfold CkT;rw [ASt.set_ne hgB];exact hT
 obtain ⟨P,hP⟩:∃ P,P=p*512:=⟨_,rfl⟩
 have hP2:(p+1)*512=P+512:=by omega
 have hPn:P+512<=D.b.length:=by
  rw [hbl,← hP2]
  exact Nat.mul_le_mul_right _ hp
 obtain ⟨A,hA⟩:∃ A,A=D.b.take P:=⟨_,rfl⟩
 obtain ⟨C,hC⟩:∃ C,C=D.b.drop (P+512):=⟨_,rfl⟩
 obtain ⟨pg,hpg⟩:∃ pg,pg=(D.b.drop P).take 512:=⟨_,rfl⟩
 have hAl:A.length=P:=by rw [hA,List.length_take];omega
 have hpl:pg.length=512:=by rw [hpg,List.length_take,List.length_drop];omega
 have hbe:D.b=A++pg++C:=by
  rw [hA,hpg,hC,List.append_assoc,← List.drop_drop,List.take_append_drop,List.take_append_drop]
 have hlay:layP D.b p s=A++pageB p s++C:=by
  unfold layP
  rw [<-hP,hP2,← hA,← hC]
 rw [hlay]
 obtain ⟨w,hw⟩:∃ w,w=le32 p:=⟨_,rfl⟩
 have hwl:w.length=4:=by rw [hw];rfl
 obtain ⟨Z,hZ⟩:∃ Z,Z=List.replicate (504-s.length) (0:UInt8):=⟨_,rfl⟩
 have hZl:Z.length=504-s.length:=by rw [hZ,List.length_replicate]
 have hbody:bodyB p s=w++s++Z:=by rw [hw,hZ];rfl
 have hpage:pageB p s=le32 (ckN (w++s++Z))++(w++s++Z):=by unfold pageB;rw [hbody]
 rw [hpage]
 have hsl:=ckN_lt (w++s++Z)
 have hsumm:∀ τ,CkT τ->ACalls Tryz.prog 61 [.str (w++s++Z)] τ fun v σ'=>v = .int .u32 (ckN (w++s++Z):Nat)/\σ'=τ:=fun τ hτ=>cksum_ok hτ _ (by simp only [List.length_append];omega)
 have hput:=ckput_ok hsl
 obtain ⟨u,hu⟩:∃ u,u=le32 (ckN (w++s++Z)):=⟨_,rfl⟩
 have hul:u.length=4:=by rw [hu];rfl
 rw [<-hu] at hput ⊢
 have d4:pg=pg.take 4++(pg.drop 4).take 4++pg.drop 8:=by
  have e:pg.drop 8=(pg.drop 4).drop 4:=by rw [List.drop_drop]
  rw [e,List.append_assoc,List.take_append_drop,List.take_append_drop]
 obtain ⟨P0,hP0⟩:∃ P0,P0=pg.take 4:=⟨_,rfl⟩
 obtain ⟨P1,hP1⟩:∃ P1,P1=(pg.drop 4).take 4:=⟨_,rfl⟩
 obtain ⟨R,hR⟩:∃ R,R=pg.drop 8:=⟨_,rfl⟩
 rw [<-hP0,← hP1,← hR] at d4
 have l0:P0.length=4:=by rw [hP0,List.length_take];omega
 have l1:P1.length=4:=by rw [hP1,List.length_take,List.length_drop];omega
 have l2:R.length=504:=by rw [hR,List.length_drop];omega
 have l3:(R.take s.length).length=s.length:=by rw [List.length_take];omega
 have l4:(R.drop s.length).length=504-s.length:=by rw [List.length_drop];omega
 have m1:spl (bytesAV D.b++rB) (P+4) (bytesAV w)=bytesAV ((A++P0)++w++(R++C))++rB:=
  mem_spl (y:=P1) (by rw [hbe,d4];simp only [List.append_assoc]) (by omega) (by rw [List.length_append];omega)
 have m2:spl (bytesAV ((A++P0)++w++(R++C))++rB) (P+8) (bytesAV s)=bytesAV ((A++P0++w)++s++(R.drop s.length++C))++rB:=
  mem_spl (y:=R.take s.length) (by
   have e:R=R.take s.length++R.drop s.length:=(List.take_append_drop _ _).symm
   conv=>lhs;rw [e]
   simp only [List.append_assoc]) l3 (by simp only [List.length_append];omega)
 have m3:spl (bytesAV ((A++P0++w)++s++(R.drop s.length++C))++rB) (P+(8+s.length)) (bytesAV Z)=bytesAV ((A++P0++w++s)++Z++C)++rB:=
  mem_spl (y:=R.drop s.length) (by simp only [List.append_assoc]) (by omega) (by simp only [List.length_append];omega)
 have m4:((bytesAV ((A++P0++w++s)++Z++C)++rB).drop (P+4)).take 508=bytesAV (w++s++Z):=
  mem_get (x:=A++P0) (z:=C) (by simp only [List.append_assoc]) (by rw [List.length_append];omega) (by simp only [List.length_append];omega)
 have m5:spl (bytesAV ((A++P0++w++s)++Z++C)++rB) P (bytesAV u)=bytesAV (A++(u++(w++s++Z))++C)++rB:=by
  rw [mem_spl (x:=A) (y:=P0) (z:=w++s++Z++C) (by simp only [List.append_assoc]) (by omega) hAl]
  congr 2
  simp only [List.append_assoc]
 have t0:(bytesAV D.b++rB).length=cB:=by rw [List.length_append,kbytes_len];omega
 have t1:(bytesAV ((A++P0)++w++(R++C))++rB).length=cB:=by rw [<-m1,spl_len (by rw [kbytes_len,hwl,t0];omega)];exact t0
 have t2:(bytesAV ((A++P0++w)++s++(R.drop s.length++C))++rB).length=cB:=by rw [<-m2,spl_len (by rw [kbytes_len,t1];omega)];exact t1
 have t3:(bytesAV ((A++P0++w++s)++Z++C)++rB).length=cB:=by rw [<-m3,spl_len (by rw [kbytes_len,hZl,t2];omega)];exact t2
 have hput1:=putU32_ok (B:=B) (o:=P+4) (n:=508) (c:=cB-P-4) (v:=p) hB (by omega) (by omega) (by omega)
 rw [<-hw,m1] at hput1
 have hZa:(List.replicate (512-(8+s.length)) [AV.int .u8 0]).flatten=bytesAV Z:=by
  rw [hZ]
  have e:512-(8+s.length)=504-s.length:=by omega
  rw [e]
  generalize 504-s.length=k
  induction k with
  | zero=>rfl
  | succ k ih=>rw [List.replicate_succ,List.flatten_cons,ih,List.replicate_succ];rfl
 have hZn:(bytesAV Z).length=512-(8+s.length):=by rw [kbytes_len,hZl];omega
 have hst:s.take 504=s:=List.take_of_length_le hs
 have hut:u.take 512=u:=List.take_of_length_le (by omega)
 have hbs:(bytesAV s).length=s.length:=kbytes_len s
 have hbu:(bytesAV u).length=u.length:=kbytes_len u
 generalize bytesAV ((A++P0)++w++(R++C))++rB=M1 at *
 generalize bytesAV ((A++P0++w)++s++(R.drop s.length++C))++rB=M2 at *
 generalize bytesAV ((A++P0++w++s)++Z++C)++rB=M3 at *
 generalize bytesAV (A++(u++(w++s++Z))++C)++rB=M4 at *
 generalize bytesAV D.b++rB=M0 at *
 generalize hbody':w++s++Z=body at *
 clear hbe hlay hpage hbody d4 hA hC hpg hP0 hP1 hR hZ hw hu l0 l1 l2 l3 l4
 have e1:((p:Int)*512).toNat=P:=by omega
 have e2:(((p:Int)+1)*512).toNat=P+512:=by omega
 have e4:(8+(s.length:Int)).toNat=8+s.length:=by omega
 have q0:0<=(p:Int)*512:=by omega
 have q1:(p:Int)*512<=((p:Int)+1)*512:=by omega
 have q2:((p:Int)+1)*512<=(cB:Int):=by omega
 have q3:(p:Int)*512<(cB:Int):=by omega
 obtain ⟨L,hL⟩:∃ L:Nat,L=512:=⟨_,rfl⟩
 have hLi:(L:Int)=512:=by omega
 have e3:P+512-P=L:=by omega
 obtain ⟨c1,hc1'⟩:∃ c,c=cB-P:=⟨_,rfl⟩
 rw [<-hc1'] at hput1
 have hcP:=hc1'.symm
 have hpb:(p:Int)<=60000:=by omega
 have z0:0+P*1=P:=by omega
 refine a59 (by simp) ?_
 simp (disch:=first|assumption|omega) only [go_sem,Nat.reduceEqDiff,Nat.reduceSub,↓reduceIte,Nat.mul_one,Int.reduceToNat,hd,e1,e2,e3,hcP,hLi,Nat.zero_add,Nat.mul_one]
 refine hput1.mono ?_
 rintro v σ1 ⟨rfl,rfl⟩
 have c504:(504:Nat)<=c1:=by omega
 simp (disch:=first|assumption|omega) only [go_sem,Nat.reduceEqDiff,Nat.reduceSub,↓reduceIte,Nat.mul_one,Int.reduceToNat,hLi]
 refine cpyC_by (ASt.set_same _ _ _) (by omega) ?_
 rw [hst,← hbs,splice_spl,m2,ASt.set_set]
 have hfin:∀ a1:AFr,a1 6 = .msl B P L c1->ACode.wp Tryz.prog c59_4 (RetQ [] fun v σ'=>v=AV.tuple []/\σ'=σ.set B (some (Role.obj M4))) a1 (σ.set B (some (Role.obj M3))):=by
  intro a1 h6
  have hs3:=hsumm _ (hCk (some (.obj M3)))
  have r8:P+4+508<=M3.length:=by omega
  simp (disch:=first|assumption|omega) only [go_sem,Nat.reduceEqDiff,Nat.reduceSub,↓reduceIte,Nat.mul_one,Int.reduceToNat,h6,hLi,m4,r8]
  refine hs3.mono ?_
  rintro v σ1 ⟨rfl,rfl⟩
  simp (disch:=first|assumption|omega) only [go_sem,↓reduceIte]
  refine hput.use ?_
  simp (disch:=first|assumption|omega) only [go_sem,Nat.reduceEqDiff,↓reduceIte]
  refine cpyC_by (ASt.set_same _ _ _) (by omega) ?_
  rw [hL,hut,← hbu,splice_spl,m5,ASt.set_set]
  simp (disch:=first|assumption|omega) only [go_sem]
  exact retC_by (.refl _) (.refl _) ⟨rfl,rfl⟩
 obtain ⟨F4,hF4⟩:∃ F,F=ACode.wp Tryz.prog c59_4:=⟨_,rfl⟩
 have b8:8+(s.length:Int)<=512:=by omega
 have b512:(512:Int)<=(c1:Int):=by omega
 have b0:0<=8+(s.length:Int):=by omega
 by_cases g:8+s.length<c1
 ·have g':8+(s.length:Int)<(c1:Int):=by omega
  simp (disch:=first|assumption|omega) only [go_sem,Nat.reduceEqDiff,↓reduceIte,Nat.mul_one,Int.reduceToNat,e4,hLi,Nat.mul_one]
  refine clrC_by (ASt.set_same _ _ _) rfl (by simp only [List.length_singleton];omega) ?_
  have hnn:(512-(8+s.length)) * [AV.int .u8 0].length=(bytesAV Z).length:=by rw [hZn,List.length_singleton,Nat.mul_one]
  rw [hZa,hnn,splice_spl,m3,ASt.set_set]
  simp (disch:=first|assumption|omega) only [go_sem,←hF4]
  rw [hF4]
  refine hfin _ ?_
  simp (disch:=first|assumption|omega) only [go_sem,Nat.reduceEqDiff,↓reduceIte]
 ·have hc:c1=512:=by omega
  have hl504:s.length=504:=by omega
  have hse:slV (false,1) (AV.msl B P L c1) (8+(s.length:Int)) 512=some (.msl B P 0 0):=by
   rw [slV_end b0 b8 b512 (by omega)]
   have x1:(512:Int).toNat-(8+(s.length:Int)).toNat=0:=by omega
   have x2:c1-(8+(s.length:Int)).toNat=0:=by omega
   rw [x1,x2]
  have hZ0:bytesAV Z = []:=List.eq_nil_of_length_eq_zero (by rw [hZn];omega)
  rw [hZ0,spl_nil] at m3
  simp (disch:=first|assumption|omega) only [go_sem,Nat.reduceEqDiff,↓reduceIte,hLi,hse]
  refine clrC_by (ASt.set_same _ _ _) rfl (by simp only [List.length_singleton];omega) ?_
  have hnn:(List.replicate 0 [AV.int .u8 0]).flatten = []:=rfl
  have hs0:splice M2 P (0 * [AV.int .u8 0].length) []=M2:=by rw [Nat.zero_mul];exact spl_nil M2 P
  rw [hnn,hs0,m3,ASt.set_set]
  simp (disch:=first|assumption|omega) only [go_sem,←hF4]
  rw [hF4]
  refine hfin _ ?_
  simp (disch:=first|assumption|omega) only [go_sem,Nat.reduceEqDiff,↓reduceIte]
theorem DM.lay (h:DM σ0 d D σ B cB rB fv F I cI rI) {b':List UInt8} (hl:b'.length=D.b.length):DM σ0 d { D with b:=b' } (σ.set B (some (.obj (bytesAV b'++rB)))) B cB rB fv F I cI rI:=by
 have hF:=h.hF
 refine ⟨?_,ASt.set_same _ _ _,?_,by rw [hl];exact h.cB,h.cI,?_,h.n1,h.n2,h.n3,h.z1,h.z2,h.z3,?_⟩
 ·rw [ASt.set_ne h.n1,h.hd]
  unfold Dsk.cs
  rw [hl]
 ·rw [ASt.set_ne (Ne.symm h.n3)];exact h.hI
 ·rcases hF with ⟨h1,h2,h3⟩|⟨cF,rF,h1,h2,h3,h4,h5,h6,h7,h8⟩
  ·exact .inl ⟨h1,h2,h3⟩
  ·exact .inr ⟨cF,rF,h1,by rw [ASt.set_ne h6];exact h2,h3,h4,h5,h6,h7,h8⟩
 ·intro x h1 h2 h3 h4
  rw [ASt.set_ne h2];exact h.out x h1 h2 h3 h4
end
end Go.A
namespace Go.A
open Go.Proofs
/-! 55: (*tabular/disk.Disk).Flush -/
def c55_15:ACode := .seq (.ops [ oq 2 (.mv (.v (.int .i64 0)))]) (.seq (.seq (.ops [ oq 4 (.mv (.t 0)),oq 5 (.mv (.t 0)),oq 6 (.nc (.t 5)),oq 7 (.fa 5 (.t 6)),oe 8 (.call 57 [(.t 4),(.t 7)]),oq 3 (.mv (.t 8))]) (.seq (.ops [ oq 9 (.mv (.t 3)),oq 10 (.bin .neq (.t 9) (.v (.int .i64 0)))]) (.cond (.t 10) (.seq (.ops [ oq 11 (.mv (.t 3)),oq 2 (.mv (.t 11))]) .ret) .skip))) (.seq (.ops [ oq 12 (.mv (.t 0)),oq 13 (.nc (.t 12)),oq 14 (.fa 7 (.t 13)),oq 15 (.ld none (.t 14)),oq 16 (.bin .add (.t 15) (.v (.int .i64 1))),oq 17 (.nc (.t 12)),oq 18 (.fa 7 (.t 17)),oz (.store 1 (.t 18) (.t 16))]) (.seq (.ops [ oq 19 (.mv (.t 0)),oq 20 (.mv (.t 0)),oq 25 (.mv (.t 0)),oq 26 (.mv (.t 0)),oq 27 (.nc (.t 26)),oq 28 (.fa 2 (.t 27)),oq 29 (.ld none (.t 28)),oq 30 (.len (.t 29)),⟨some 21,none,.e (.call 58 [(.t 20)]),[⟨none,.ld none (.t 28),29⟩]⟩,oq 22 (.conv .u32 (.t 21)),⟨some 23,none,.e (.call 95 [(.t 22)]),[⟨none,.ld none (.t 28),29⟩]⟩,oq 24 (.bin .add (.v (.str [84,65,66,85,76,65,82,49])) (.t 23)),oe 31 (.call 96 [(.t 25),(.t 30)]),oq 32 (.bin .add (.t 24) (.t 31)),oe 33 (.call 59 [(.t 19),(.v (.int .i64 0)),(.t 32)])]) (.seq (.ops [ oq 2 (.mv (.v (.int .i64 0)))]) .ret))))
@[go_sem] def c55_15_wp:=wp_of c55_15.eq_1
def c55:AFn:=⟨34,[.t 2],c55_15⟩
theorem c55_ok:compF Tryz.prog Tryz.f55=some c55:=by kernel_rfl
theorem a55 {args:List AV} {σ:ASt} {R:AV->ASt->Prop} (hl:args.length<=34) (h:c55_15.wp Tryz.prog (RetQ [.t 2] R) (init args) σ):ACalls Tryz.prog 55 args σ R:=acalls_of Tryz.func55 c55_ok hl h
/-! 96: (*tabular/disk.Disk).next -/
def c96_9:ACode := .seq (.ops [ oq 4 (.mv (.v (.str [])))]) (.seq (.seq (.ops [ oq 5 (.mv (.t 1)),oq 6 (.bin .eql (.t 5) (.v (.int .i64 0)))]) (.cond (.t 6) (.seq (.ops [ oe 7 (.call 95 [(.v (.int .u32 4294967295))]),oq 4 (.mv (.t 7))]) .ret) .skip)) (.seq (.ops [ oq 8 (.mv (.t 0)),oq 9 (.nc (.t 8)),oq 10 (.fa 2 (.t 9)),oq 11 (.ld none (.t 10)),oq 12 (.mv (.t 1)),oq 13 (.bin .sub (.t 12) (.v (.int .i64 1))),oq 14 (.ia 1 (.t 11) (.t 13)),oq 15 (.ld none (.t 14)),oq 16 (.conv .u32 (.t 15)),oe 17 (.call 95 [(.t 16)]),oq 4 (.mv (.t 17))]) .ret))
@[go_sem] def c96_9_wp:=wp_of c96_9.eq_1
def c96:AFn:=⟨18,[.t 4],c96_9⟩
theorem c96_ok:compF Tryz.prog Tryz.f96=some c96:=by kernel_rfl
theorem a96 {args:List AV} {σ:ASt} {R:AV->ASt->Prop} (hl:args.length<=18) (h:c96_9.wp Tryz.prog (RetQ [.t 4] R) (init args) σ):ACalls Tryz.prog 96 args σ R:=acalls_of Tryz.func96 c96_ok hl h
end Go.A
namespace Go.A
open Go.Proofs
def nextP (D:Dsk) (i:Nat):Nat:=if i=0 then 4294967295 else D.free.getD (i-1) 0
def headP (D:Dsk):List UInt8 := [84,65,66,85,76,65,82,49]++le32 D.isF.length++le32 (nextP D D.free.length)
theorem headP_len (D:Dsk):(headP D).length=16:=rfl
section
variable {σ0 σ:ASt} {d B cB F I cI:Nat} {D:Dsk} {rB rI:List AV} {fv:AV}
theorem DM.next_lt (ho:D.ok) (i:Nat):nextP D i<4294967296:=by
 unfold nextP
 split
 ·decide
 ·rw [List.getD_eq_getElem?_getD]
  cases hx:D.free[i-1]? with
  | none=>exact (by decide:0<4294967296)
  | some p=>
    have h1:=ho.free p (List.mem_of_getElem? hx)
    have h2:=ho.most
    show p<4294967296
    omega
theorem dknext_ok (h:DM σ0 d D σ B cB rB fv F I cI rI) (ho:D.ok) {i:Nat} (hi:i<=D.free.length):ACalls Tryz.prog 96 [.ptr d 0,.int .i64 i] σ fun v σ'=>v = .str (le32 (nextP D i))/\σ'=σ:=by
 have hd:=h.hd
 have hlt:=DM.next_lt ho i
 unfold Dsk.cs at hd
 by_cases g:i=0
 ·subst g
  have hw:=dkword_ok (v:=4294967295) (by decide)
  have e:nextP D 0=4294967295:=rfl
  rw [e]
  refine a96 (by simp) ?_
  simp (disch:=first|assumption|omega) only [go_sem,Nat.reduceEqDiff,↓reduceIte]
  refine hw.use ?_
  simp (disch:=first|assumption|omega) only [go_sem,↓reduceIte]
  exact retC_by (.refl _) (.refl _) ⟨rfl,rfl⟩
 ·rcases h.hF with ⟨h1,_,_⟩|⟨cF,rF,h1,h2,h3,h4,h5,h6,h7,h8⟩
  ·rw [h1] at hi
   exact absurd (Nat.le_zero.1 hi) g
  ·rw [h1] at hd
   have hx : D.free[i - 1]? = some (D.free[i - 1]'(by omega)) := List.getElem?_eq_getElem (by omega)
   have hn : nextP D i = D.free[i - 1]'(by omega) := by
    unfold nextP
    rw [if_neg g,List.getD_eq_getElem?_getD,hx]
    rfl
   have hw:=dkword_ok hlt
   rw [hn] at hw hlt ⊢
   have hm : (freeV D.free ++ rF)[i - 1]? = some (.int .i64 ((D.free[i - 1]'(by omega) : Nat) : Int)) := by
    unfold freeV
    rw [List.getElem?_append_left (by rw [List.length_map];omega),List.getElem?_map,hx]
    rfl
   generalize D.free[i - 1]'(by omega) = p at *
   have g':¬ (i:Int)=0:=by omega
   have hi2:(i:Int)<=60000:=by have:=ho.few;have:=ho.most;omega
   have e1:((i:Int)-1).toNat=i-1:=by omega
   have e2:(i:Int)-1<(D.free.length:Int):=by omega
   have e3:0<=(i:Int)-1:=by omega
   refine a96 (by simp) ?_
   simp (disch:=first|assumption|omega) only [go_sem,reduceCtorEq,Nat.reduceEqDiff,↓reduceIte,Nat.mul_one,hd,g',e1,h2,hm,Nat.zero_add,Nat.mul_one]
   refine hw.use ?_
   simp (disch:=first|assumption|omega) only [go_sem,↓reduceIte]
   exact retC_by (.refl _) (.refl _) ⟨rfl,rfl⟩
def flushP (D:Dsk):Dsk×Int:=
 if (failD D.wl).2≠0 then ({ D with wl:=(failD D.wl).1 },(failD D.wl).2)
 else ({ D with wl:=(failD D.wl).1,pt:=D.pt+1,b:=layP D.b 0 (headP D) },0)
theorem failD_rng {D:Dsk} (ho:D.ok) : -1<=(failD D.wl).1/\(failD D.wl).1<=1000000000:=by
 have:=ho.wl
 unfold failD
 split
 ·exact ⟨by decide,by decide⟩
 ·split<;>dsimp only<;>omega
theorem dkflush_ok (hT:CkT σ) (h:DM σ0 d D σ B cB rB fv F I cI rI) (ho:D.ok) (hpt:D.pt<1000000000) :
  ACalls Tryz.prog 55 [.ptr d 0] σ fun v σ'=>v = .int .i64 (flushP D).2/\∃ rB',DM σ0 d (flushP D).1 σ' B cB rB' fv F I cI rI:=by
 have hf:=dkfailW_ok h ho
 have hwr:=failD_rng ho
 have h1:=h.cells (D' := { D with wl:=(failD D.wl).1 }) rfl rfl rfl
 have ho1:({ D with wl:=(failD D.wl).1 }:Dsk).ok:=⟨ho.len,ho.one,ho.most,ho.free,ho.few,ho.rl,hwr,ho.rd,ho.pt⟩
 have hdn:1≠d:=by
  rintro he
  have:=h.hd
  unfold CkT at hT
  rw [<-he,hT] at this
  cases this
 have hC1:∀ (τ:ASt) r,CkT τ->CkT (τ.set d r):=fun τ r hτ=>by unfold CkT at *;rw [ASt.set_ne hdn];exact hτ
 obtain ⟨q,hq⟩:∃ q,flushP D=q:=⟨_,rfl⟩
 rw [hq]
 unfold flushP at hq
 have hd1:=h1.hd
 unfold Dsk.cs at hd1 hf
 by_cases g:(failD D.wl).2=0
 ·rw [if_neg (by simp [g])] at hq
  subst hq
  rw [g] at hf
  have hpt0:=ho.pt
  have h2:=h1.cells (D' := { D with wl:=(failD D.wl).1,pt:=D.pt+1 }) rfl rfl rfl
  rw [ASt.set_set] at h2
  have ho2:({ D with wl:=(failD D.wl).1,pt:=D.pt+1 }:Dsk).ok:=⟨ho.len,ho.one,ho.most,ho.free,ho.few,ho.rl,hwr,ho.rd,by dsimp only;omega⟩
  have hd2:=h2.hd
  have hCk:=hC1 σ (some (.obj (({ D with wl:=(failD D.wl).1,pt:=D.pt+1 }:Dsk).cs B cB fv I cI))) hT
  have hcnt:=dkcount_ok h2 ho2
  have hnx:=dknext_ok h2 ho2 (i:=D.free.length) (Nat.le_refl _)
  have hwo:=dkword_ok (v:=D.isF.length) (by have:=ho.most;omega)
  have hhl:(headP D).length<=504:=by rw [headP_len];decide
  have hlay:=dklay_ok hCk h2 ho2 (p:=0) ho.one hhl
  have hl:=layP_len (b:=D.b) (p:=0) hhl (by have:=ho.len;have:=ho.one;omega)
  have h3:=h2.lay (b':=layP D.b 0 (headP D)) hl
  have hb1:binS .add [84,65,66,85,76,65,82,49] (le32 D.isF.length)=some (.str (84::65::66::85::76::65::82::49::le32 D.isF.length)):=binS_add (by simp only [List.length_cons,List.length_nil,le32_len];decide)
  have hb2:binS .add (84::65::66::85::76::65::82::49::le32 D.isF.length) (le32 (nextP D D.free.length))=some (.str (headP D)):=binS_add (by simp only [List.length_cons,le32_len];decide)
  have hnn:nextP ({ D with wl:=(failD D.wl).1,pt:=D.pt+1 }:Dsk) D.free.length=nextP D D.free.length:=rfl
  rw [hnn] at hnx
  have hnl:(D.isF.length:Int)<=60000:=by have:=ho.most;omega
  unfold Dsk.cs at hd2 hcnt hnx hlay h3
  dsimp only at hd2 hcnt hnx hlay h3 hd1 hf
  generalize layP D.b 0 (headP D)=b' at *
  generalize headP D=hh at *
  generalize le32 (nextP D D.free.length)=nn at *
  generalize le32 D.isF.length=ww at *
  have hF:=h.hF
  clear h1 h2 ho1 ho2 hl hC1
  rcases hF with ⟨x1,x2,_⟩|⟨cF,rF,x2,_⟩
  ·have x0:(0:Int)=(D.free.length:Int):=by rw [x1];rfl
   rw [<-x0] at hnx
   subst x2
   refine a55 (by simp) ?_
   simp (disch:=first|assumption|omega) only [go_sem,reduceCtorEq,Nat.reduceEqDiff,↓reduceIte]
   refine hf.mono ?_
   rintro v σ' ⟨rfl,rfl⟩
   simp (disch:=first|assumption|omega) only [go_sem,reduceCtorEq,Nat.reduceEqDiff,Nat.reduceAdd,Nat.reduceLeDiff,↓reduceIte,Bool.true_and,ASt.set_set]
   refine hcnt.mono ?_
   rintro v σ' ⟨rfl,rfl⟩
   simp (disch:=first|assumption|omega) only [go_sem,Nat.reduceEqDiff,↓reduceIte]
   refine hwo.use ?_
   simp (disch:=first|assumption|omega) only [go_sem,Nat.reduceEqDiff,↓reduceIte,hb1]
   refine hnx.mono ?_
   rintro v σ' ⟨rfl,rfl⟩
   simp (disch:=first|assumption|omega) only [go_sem,Nat.reduceEqDiff,↓reduceIte,hb2]
   refine hlay.mono ?_
   rintro v σ' ⟨rfl,rfl⟩
   simp (disch:=first|assumption|omega) only [go_sem,↓reduceIte]
   exact retC_by (.refl _) (.refl _) ⟨rfl,_,h3⟩
  ·subst x2
   refine a55 (by simp) ?_
   simp (disch:=first|assumption|omega) only [go_sem,reduceCtorEq,Nat.reduceEqDiff,↓reduceIte]
   refine hf.mono ?_
   rintro v σ' ⟨rfl,rfl⟩
   simp (disch:=first|assumption|omega) only [go_sem,reduceCtorEq,Nat.reduceEqDiff,Nat.reduceAdd,Nat.reduceLeDiff,↓reduceIte,Bool.true_and,ASt.set_set]
   refine hcnt.mono ?_
   rintro v σ' ⟨rfl,rfl⟩
   simp (disch:=first|assumption|omega) only [go_sem,Nat.reduceEqDiff,↓reduceIte]
   refine hwo.use ?_
   simp (disch:=first|assumption|omega) only [go_sem,Nat.reduceEqDiff,↓reduceIte,hb1]
   refine hnx.mono ?_
   rintro v σ' ⟨rfl,rfl⟩
   simp (disch:=first|assumption|omega) only [go_sem,Nat.reduceEqDiff,↓reduceIte,hb2]
   refine hlay.mono ?_
   rintro v σ' ⟨rfl,rfl⟩
   simp (disch:=first|assumption|omega) only [go_sem,↓reduceIte]
   exact retC_by (.refl _) (.refl _) ⟨rfl,_,h3⟩
 ·rw [if_pos g] at hq
  subst hq
  refine a55 (by simp) ?_
  simp (disch:=first|assumption|omega) only [go_sem,reduceCtorEq,Nat.reduceEqDiff,↓reduceIte]
  refine hf.mono ?_
  rintro v σ' ⟨rfl,rfl⟩
  simp (disch:=first|assumption|omega) only [go_sem,Nat.reduceEqDiff,↓reduceIte,g]
  exact retC_by (.refl _) (.refl _) ⟨rfl,_,h1⟩
end
end Go.A
namespace Go.A
open Go.Proofs
/-! 26: tabular/disk.New -/
def c26_11:ACode := .seq (.ops [ oq 2 (.mv (.v .nilp))]) (.seq (.ops [ oq 4 (.mv (.t 0)),oq 5 (.mnx true (.t 4) (.v (.int .i64 2))),oq 6 (.mnx false (.t 5) (.v (.int .i64 60000))),oq 7 (.build [(.sl .full []),(.int .i64 0),(.sl .full []),(.sl .full []),(.int .i64 0),(.int .i64 0),(.int .i64 0),(.int .i64 0)] [(1,1,(.t 6)),(4,1,(.v (.int .i64 (-1)))),(5,1,(.v (.int .i64 (-1))))]),oe 8 (.box (.t 7)),oq 3 (.mv (.t 8))]) (.seq (.ops [ oq 9 (.mv (.t 3)),oe 10 (.mks 5 1 (.int .u8 0) (.v (.int .i64 512)) (.v (.int .i64 512))),oq 11 (.nc (.t 9)),oq 12 (.fa 0 (.t 11)),oz (.store 1 (.t 12) (.t 10))]) (.seq (.ops [ oq 13 (.mv (.t 3)),oe 14 (.mks 4 1 (.bool false) (.v (.int .i64 1)) (.v (.int .i64 1))),oq 15 (.nc (.t 13)),oq 16 (.fa 3 (.t 15)),oz (.store 1 (.t 16) (.t 14))]) (.seq (.ops [ oq 17 (.mv (.t 3)),oe 18 (.call 55 [(.t 17)])]) (.seq (.ops [ oq 19 (.mv (.t 3)),oq 2 (.mv (.t 19))]) .ret)))))
@[go_sem] def c26_11_wp:=wp_of c26_11.eq_1
def c26:AFn:=⟨20,[.t 2],c26_11⟩
theorem c26_ok:compF Tryz.prog Tryz.f26=some c26:=by kernel_rfl
theorem a26 {args:List AV} {σ:ASt} {R:AV->ASt->Prop} (hl:args.length<=20) (h:c26_11.wp Tryz.prog (RetQ [.t 2] R) (init args) σ):ACalls Tryz.prog 26 args σ R:=acalls_of Tryz.func26 c26_ok hl h
/-! 27: (*tabular/disk.Disk).Take -/
def c27_36:ACode := .seq (.seq (.ops [ oq 7 (.mv (.t 0)),oe 8 (.call 56 [(.t 7)]),oq 9 (.bin .eql (.t 8) (.v (.int .i64 0)))]) (.cond (.t 9) (.seq (.ops [ oq 2 (.mv (.v (.int .i64 0))),oq 3 (.mv (.v (.int .i64 6)))]) .ret) .skip)) (.seq (.seq (.ops [ oq 10 (.mv (.t 0)),oq 11 (.mv (.t 0)),oq 12 (.nc (.t 11)),oq 13 (.fa 5 (.t 12)),oe 14 (.call 57 [(.t 10),(.t 13)]),oq 4 (.mv (.t 14))]) (.seq (.ops [ oq 15 (.mv (.t 4)),oq 16 (.bin .neq (.t 15) (.v (.int .i64 0)))]) (.cond (.t 16) (.seq (.ops [ oq 17 (.mv (.t 4)),oq 2 (.mv (.v (.int .i64 0))),oq 3 (.mv (.t 17))]) .ret) .skip))) (.seq (.ops [ oq 18 (.mv (.t 0)),oq 19 (.nc (.t 18)),oq 20 (.fa 7 (.t 19)),oq 21 (.ld none (.t 20)),oq 22 (.bin .add (.t 21) (.v (.int .i64 1))),oq 23 (.nc (.t 18)),oq 24 (.fa 7 (.t 23)),oz (.store 1 (.t 24) (.t 22))]) (.seq (.ops [ oq 25 (.mv (.t 0)),oe 26 (.call 58 [(.t 25)]),oq 5 (.mv (.t 26))]) (.seq (.seq (.ops [ oq 27 (.mv (.t 0)),oq 28 (.nc (.t 27)),oq 29 (.fa 2 (.t 28)),oq 30 (.ld none (.t 29)),oq 31 (.len (.t 30)),oq 6 (.mv (.t 31))]) (.seq (.ops [ oq 32 (.mv (.t 6)),oq 33 (.bin .gtr (.t 32) (.v (.int .i64 0)))]) (.cond (.t 33) (.seq (.ops [ oq 34 (.mv (.t 0)),oq 35 (.nc (.t 34)),oq 36 (.fa 2 (.t 35)),oq 37 (.ld none (.t 36)),oq 38 (.mv (.t 6)),oq 39 (.bin .sub (.t 38) (.v (.int .i64 1))),oq 40 (.ia 1 (.t 37) (.t 39)),oq 41 (.ld none (.t 40)),oq 5 (.mv (.t 41))]) (.seq (.ops [ oq 42 (.mv (.t 0)),oq 43 (.mv (.t 0)),oq 44 (.nc (.t 43)),oq 45 (.fa 2 (.t 44)),oq 46 (.ld none (.t 45)),oq 47 (.mv (.t 6)),oq 48 (.bin .sub (.t 47) (.v (.int .i64 1))),oq 49 (.slto (false,1) (.t 46) (.t 48)),oq 50 (.nc (.t 42)),oq 51 (.fa 2 (.t 50)),oz (.store 1 (.t 51) (.t 49))]) (.ops [ oq 52 (.mv (.t 0)),oq 53 (.nc (.t 52)),oq 54 (.fa 3 (.t 53)),oq 55 (.ld none (.t 54)),oq 56 (.mv (.t 5)),oq 57 (.ia 1 (.t 55) (.t 56)),oz (.store 1 (.t 57) (.v (.bool false)))]))) (.seq (.ops [ oq 58 (.mv (.t 0)),oq 59 (.mv (.t 0)),oq 60 (.nc (.t 59)),oq 61 (.fa 0 (.t 60)),oq 62 (.ld none (.t 61)),oe 63 (.appm 1 1 [(.int .u8 0)] (.t 62) (.v (.int .i64 512))),oq 64 (.nc (.t 58)),oq 65 (.fa 0 (.t 64)),oz (.store 1 (.t 65) (.t 63))]) (.ops [ oq 66 (.mv (.t 0)),oq 67 (.mv (.t 0)),oq 68 (.nc (.t 67)),oq 69 (.fa 3 (.t 68)),oq 70 (.ld none (.t 69)),oq 71 (.bsl 1 [(.v (.bool false))]),oe 72 (.app 4 1 1 [(.bool false)] (.t 70) (.t 71)),oq 73 (.nc (.t 66)),oq 74 (.fa 3 (.t 73)),oz (.store 1 (.t 74) (.t 72))]))))) (.seq (.ops [ oq 75 (.mv (.t 0)),oq 76 (.mv (.t 5)),oe 77 (.call 59 [(.t 75),(.t 76),(.v (.str []))])]) (.seq (.ops [ oq 78 (.mv (.t 5)),oq 2 (.mv (.t 78)),oq 3 (.mv (.v (.int .i64 0)))]) .ret))))))
def c27_37:ACode := .seq (.ops [ oq 2 (.mv (.v (.int .i64 0))),oq 3 (.mv (.v (.int .i64 0)))]) c27_36
@[go_sem] def c27_36_wp:=wp_of c27_36.eq_1
@[go_sem] def c27_37_wp:=wp_of c27_37.eq_1
def c27:AFn:=⟨79,[.t 2,.t 3],c27_37⟩
theorem c27_ok:compF Tryz.prog Tryz.f27=some c27:=by kernel_rfl
theorem a27 {args:List AV} {σ:ASt} {R:AV->ASt->Prop} (hl:args.length<=79) (h:c27_37.wp Tryz.prog (RetQ [.t 2,.t 3] R) (init args) σ):ACalls Tryz.prog 27 args σ R:=acalls_of Tryz.func27 c27_ok hl h
end Go.A
namespace Go.A
open Go.Proofs
def rawP (m:Int):Dsk:=⟨List.replicate 512 0,m,[],[false], -1, -1,0,0⟩
def newP (m:Int):Dsk:=(flushP (rawP m)).1
theorem rawP_ok {m:Int} (h:2<=m/\m<=60000):(rawP m).ok where
 len:=by unfold rawP;rw [List.length_replicate];rfl
 one:=Nat.le_refl 1
 most:=⟨(by have:=h.1;show (1:Int)<=m;omega),h.2⟩
 free:=fun p hp=>by cases hp
 few:=Nat.zero_le _
 rl:=⟨(by decide:(-1:Int) ≤ -1),(by decide:(-1:Int)<=1000000000)⟩
 wl:=⟨(by decide:(-1:Int) ≤ -1),(by decide:(-1:Int)<=1000000000)⟩
 rd:=⟨(by decide:(0:Int)<=0),(by decide:(0:Int)<=1000000000)⟩
 pt:=⟨(by decide:(0:Int)<=0),(by decide:(0:Int)<=1000000000)⟩
theorem newP_eq (m:Int):newP m=⟨layP (List.replicate 512 0) 0 (headP (rawP m)),m,[],[false], -1, -1,0,1⟩:=rfl
theorem newP_ok {m:Int} (h:2<=m/\m<=60000):(newP m).ok:=by
 have ho:=rawP_ok h
 have hl:(layP (List.replicate 512 0) 0 (headP (rawP m))).length=512:=by
  rw [layP_len (by rw [headP_len];decide) (by rw [List.length_replicate];decide),List.length_replicate]
 rw [newP_eq]
 exact ⟨hl,ho.one,ho.most,ho.free,ho.few,ho.rl,ho.wl,ho.rd,⟨(by decide:(0:Int)<=1),(by decide:(1:Int)<=1000000000)⟩⟩
theorem zero_bytes (n:Nat):List.replicate n (AV.int .u8 0)=bytesAV (List.replicate n 0):=by
 unfold bytesAV
 rw [List.map_replicate]
 rfl
theorem dknew_ok {σ:ASt} (hT:CkT σ) (pages:Int):ACalls Tryz.prog 26 [.int .i64 pages] σ fun v σ'=>∃ d,v = .ptr d 0/\DiskAt σ d (newP (min (max pages 2) 60000)) σ':=by
 obtain ⟨m,hm⟩:∃ m,min (max pages 2) 60000=m:=⟨_,rfl⟩
 have hmr:2<=m/\m<=60000:=by omega
 have ho:=rawP_ok hmr
 rw [hm]
 refine a26 (by simp) ?_
 simp (disch:=first|assumption|omega) only [go_sem,reduceCtorEq,Nat.reduceAdd,Nat.reduceLeDiff,↓reduceIte,Int.reduceNeg,hm]
 refine boxC_by rfl fun d hd=>?_
 have hT1:=fun r=>CkT.set (r:=r) hT hd
 simp (disch:=first|assumption|omega) only [go_sem,↓reduceIte,Int.reduceNeg]
 refine mks_own (by decide) (by decide) (by decide) (by decide) fun B hB=>?_
 have hT2:=fun r=>CkT.set (r:=r) (hT1 _) hB
 have e512:((512:Int)).toNat=512:=rfl
 rw [e512,zero_bytes]
 repeat (with_reducible replace hB:=set_none hB;obtain ⟨_,_,hB⟩:=hB)
 have hdB:d≠B:=by assumption
 simp (disch:=first|assumption|omega) only [go_sem,Nat.reduceEqDiff,Nat.reduceAdd,Nat.reduceLeDiff,↓reduceIte,Int.reduceNeg,Bool.true_and]
 refine mks_own (by decide) (by decide) (by decide) (by decide) fun I hI=>?_
 have hI':=hI
 repeat (with_reducible replace hI:=set_none hI;obtain ⟨_,_,hI⟩:=hI)
 have hdI:d≠I:=by assumption
 have hBI:B≠I:=by assumption
 have hId:I≠d:=Ne.symm hdI
 have hBd:B≠d:=Ne.symm hdB
 have hIB:I≠B:=Ne.symm hBI
 have hσd:σ d=none:=by assumption
 have hσB:σ B=none:=by assumption
 have hσI:σ I=none:=by assumption
 have e1:((1:Int)).toNat=1:=rfl
 rw [e1]
 have hr1:List.replicate 1 (AV.bool false) = [AV.bool false]:=rfl
 rw [hr1]
 simp (disch:=first|assumption|omega) only [go_sem,Nat.reduceEqDiff,Nat.reduceAdd,Nat.reduceLeDiff,↓reduceIte,Int.reduceNeg,Bool.true_and]
 obtain ⟨τ,hτ⟩:∃ τ,τ=(((((σ.set d (some (.obj [.sl .full [],.int .i64 m,.sl .full [],.sl .full [],.int .i64 (-1),.int .i64 (-1),.int .i64 0,.int .i64 0]))).set B (some (.obj (bytesAV (List.replicate 512 0))))).set d (some (.obj [.msl B 0 512 512,.int .i64 m,.sl .full [],.sl .full [],.int .i64 (-1),.int .i64 (-1),.int .i64 0,.int .i64 0]))).set I (some (.obj [.bool false]))).set d (some (.obj [.msl B 0 512 512,.int .i64 m,.sl .full [],.msl I 0 1 1,.int .i64 (-1),.int .i64 (-1),.int .i64 0,.int .i64 0]))):=⟨_,rfl⟩
 rw [<-hτ]
 have hDM:DM σ d (rawP m) τ B 512 [] (.sl .full []) d I 1 []:=by
  refine ⟨?_,?_,?_,?_,?_,.inl ⟨rfl,rfl,rfl⟩,hdB,hdI,hBI,hσd,hσB,hσI,?_⟩
  ·rw [hτ]
   unfold Dsk.cs rawP
   rw [List.length_replicate]
   exact ASt.set_same _ _ _
  ·rw [hτ,List.append_nil]
   simp (disch:=first|assumption|omega) only [go_sem,Int.reduceNeg]
   rfl
  ·rw [hτ]
   simp (disch:=first|assumption|omega) only [go_sem,Int.reduceNeg]
   rfl
  ·unfold rawP;rw [List.length_replicate];exact ⟨Nat.le_refl _,rfl⟩
  ·exact ⟨Nat.le_refl _,rfl⟩
  ·intro x h1 h2 h3 h4
   left
   rw [hτ,ASt.set_ne h1,ASt.set_ne h3,ASt.set_ne h1,ASt.set_ne h2,ASt.set_ne h1]
 have hTτ:CkT τ:=by
  unfold CkT
  exact hDM.at hT
 have hfl:=dkflush_ok hTτ hDM ho (by decide:(0:Int)<1000000000)
 refine hfl.mono ?_
 rintro v σ' ⟨rfl,rB',h2⟩
 simp (disch:=first|assumption|omega) only [go_sem,Nat.reduceEqDiff,↓reduceIte,Int.reduceNeg]
 exact retC_by (.refl _) (.refl _) ⟨d,rfl,B,512,rB',_,_,_,_,_,h2⟩
section
variable {σ0 σ:ASt} {d B cB F I cI:Nat} {D:Dsk} {rB rI:List AV} {fv:AV}
theorem DM.low (h:DM σ0 d D σ B cB rB fv F I cI rI) {x:Nat} (hx:σ x=none):x≠d/\x≠B/\x≠I/\x≠F/\σ0 x=none:=by
 have h1:x≠d:=by rintro rfl;rw [h.hd] at hx;cases hx
 have h2:x≠B:=by rintro rfl;rw [h.hB] at hx;cases hx
 have h3:x≠I:=by rintro rfl;rw [h.hI] at hx;cases hx
 have h4:x≠F:=by
  rcases h.hF with ⟨_,_,rfl⟩|⟨cF,rF,_,hm,_⟩
  ·exact h1
  ·rintro rfl;rw [hm] at hx;cases hx
 refine ⟨h1,h2,h3,h4,?_⟩
 rcases h.out x h1 h2 h3 h4 with h5|h5
 ·rw [h5,hx]
 ·exact h5
theorem DM.growB (h:DM σ0 d D σ B cB rB fv F I cI rI) (hlen:D.b.length<=40000000) {K:AV->ASt->Prop}
  (hK:∀ B' cB' rB' τ,τ d=some (.obj (D.cs B cB fv I cI))->DM σ0 d { D with b:=D.b++List.replicate 512 0 } (τ.set d (some (.obj (({ D with b:=D.b++List.replicate 512 0 }:Dsk).cs B' cB' fv I cI)))) B' cB' rB' fv F I cI rI->K (.msl B' 0 (D.b.length+512) cB') τ) :
  appmC 1 1 [.int .u8 0] (.msl B 0 D.b.length cB) (.int .i64 512) σ K:=by
 have hB:=h.hB
 obtain ⟨hc1,hc2⟩:=h.cB
 have hz:(List.replicate 512 [AV.int .u8 0]).flatten=bytesAV (List.replicate 512 0):=by rw [List.flatten_replicate_singleton];exact zero_bytes 512
 have hzl:(bytesAV (List.replicate 512 0)).length=512:=by rw [kbytes_len,List.length_replicate]
 have hml:(bytesAV D.b++rB).length=cB:=by rw [List.length_append,kbytes_len];omega
 have hnl:(D.b++List.replicate 512 0).length=D.b.length+512:=by rw [List.length_append,List.length_replicate]
 have hF:=h.hF
 refine appmC_by (m:=512) hB rfl (by omega) (by omega) (by omega) (fun hroom=>⟨by omega,?_⟩) (fun hgrow b' c' hb' hc'=>?_)
 ·have e:splice (bytesAV D.b++rB) (0+D.b.length*1) (512*1) (List.replicate 512 [AV.int .u8 0]).flatten=bytesAV (D.b++List.replicate 512 0)++rB.drop 512:=by
   rw [hz,Nat.zero_add,Nat.mul_one,Nat.mul_one]
   unfold splice
   rw [kbytes_app]
   have a1:(bytesAV D.b++rB).take D.b.length=bytesAV D.b:=by rw [<-kbytes_len D.b,List.take_left]
   have a2:(bytesAV D.b++rB).drop (D.b.length+512)=rB.drop 512:=by rw [<-List.drop_drop,← kbytes_len D.b,List.drop_left]
   rw [a1,a2]
  rw [e]
  refine hK B cB (rB.drop 512) _ (by rw [ASt.set_ne h.n1];exact h.hd) ?_
  refine ⟨ASt.set_same _ _ _,?_,?_,?_,h.cI,?_,h.n1,h.n2,h.n3,h.z1,h.z2,h.z3,?_⟩
  ·rw [ASt.set_ne (Ne.symm h.n1),ASt.set_same]
  ·rw [ASt.set_ne (Ne.symm h.n2),ASt.set_ne (Ne.symm h.n3)];exact h.hI
  ·dsimp only
   rw [hnl,List.length_drop]
   clear hF
   omega
  ·rcases hF with ⟨x1,x2,x3⟩|⟨cF,rF,x1,x2,x3,x4,x5,x6,x7,x8⟩
   ·exact .inl ⟨x1,x2,x3⟩
   ·exact .inr ⟨cF,rF,x1,by rw [ASt.set_ne x5,ASt.set_ne x6];exact x2,x3,x4,x5,x6,x7,x8⟩
  ·intro x h1 h2 h3 h4
   rw [ASt.set_ne h1,ASt.set_ne h2]
   exact h.out x h1 h2 h3 h4
 ·obtain ⟨f1,f2,f3,f4,f5⟩:=h.low hb'
  have e:ownRow 1 [AV.int .u8 0] (((bytesAV D.b++rB).drop 0).take (D.b.length*1)++(List.replicate 512 [AV.int .u8 0]).flatten) (D.b.length+512) c'=bytesAV (D.b++List.replicate 512 0)++ownRow 1 [AV.int .u8 0] [] (D.b.length+512) c':=by
   unfold ownRow
   rw [hz,List.drop_zero,Nat.mul_one,kbytes_app,← kbytes_len D.b,List.take_left,List.nil_append]
  have hol:(ownRow 1 [AV.int .u8 0] [] (D.b.length+512) c').length=c'-(D.b.length+512):=by
   unfold ownRow
   simp
  rw [e]
  refine hK b' c' (ownRow 1 [AV.int .u8 0] [] (D.b.length+512) c') _ (by rw [ASt.set_ne (Ne.symm f1)];exact h.hd) ?_
  refine ⟨ASt.set_same _ _ _,?_,?_,?_,h.cI,?_,Ne.symm f1,h.n2,f3,h.z1,f5,h.z3,?_⟩
  ·rw [ASt.set_ne f1,ASt.set_same]
  ·rw [ASt.set_ne (Ne.symm h.n2),ASt.set_ne (Ne.symm f3)];exact h.hI
  ·dsimp only
   rw [hnl,hol]
   clear hF
   omega
  ·rcases hF with ⟨x1,x2,x3⟩|⟨cF,rF,x1,x2,x3,x4,x5,x6,x7,x8⟩
   ·exact .inl ⟨x1,x2,x3⟩
   ·exact .inr ⟨cF,rF,x1,by rw [ASt.set_ne x5,ASt.set_ne (Ne.symm f4)];exact x2,x3,x4,x5,Ne.symm f4,x7,x8⟩
  ·intro x h1 h2 h3 h4
   rw [ASt.set_ne h1,ASt.set_ne h2]
   by_cases hxB:x=B
   ·rw [hxB];exact .inr h.z2
   ·exact h.out x h1 hxB h3 h4
theorem DM.growI (h:DM σ0 d D σ B cB rB fv F I cI rI) (hlen:D.isF.length<=100000) {K:AV->ASt->Prop} {e:TypeId}
  (hK:∀ I' cI' rI' τ,τ d=some (.obj (D.cs B cB fv I cI))->DM σ0 d { D with isF:=D.isF ++ [false] } (τ.set d (some (.obj (({ D with isF:=D.isF ++ [false] }:Dsk).cs B cB fv I' cI')))) B cB rB fv F I' cI' rI'->K (.msl I' 0 (D.isF.length+1) cI') τ) :
  appC e 1 1 [.bool false] (.msl I 0 D.isF.length cI) (.sl .full [.bool false]) σ K:=by
 have hI:=h.hI
 obtain ⟨hc1,hc2⟩:=h.cI
 have hml:(D.isF.map AV.bool++rI).length=cI:=by rw [List.length_append,List.length_map];omega
 have hnl:(D.isF ++ [false]).length=D.isF.length+1:=by rw [List.length_append];rfl
 have hF:=h.hF
 have hfl : [AV.bool false].flatMap AV.cells = [AV.bool false]:=rfl
 have h1l : [AV.bool false].length=1:=rfl
 rw [appC_msl,hI]
 refine appM_by rfl rfl (by rw [h1l];omega) (by rw [h1l];omega) (by omega) (fun hroom=>⟨by rw [h1l] at hroom ⊢;omega,?_⟩) (fun hgrow b' c' hb' hc'=>?_)
 ·rw [h1l] at hroom
  have e:splice (D.isF.map AV.bool++rI) (0+D.isF.length*1) ([AV.bool false].length*1) ([AV.bool false].flatMap AV.cells)=(D.isF ++ [false]).map AV.bool++rI.drop 1:=by
   rw [hfl,h1l,Nat.zero_add,Nat.mul_one,Nat.mul_one]
   unfold splice
   have hll:(D.isF.map AV.bool).length=D.isF.length:=List.length_map _
   have a1:(D.isF.map AV.bool++rI).take D.isF.length=D.isF.map AV.bool:=by rw [<-hll,List.take_left]
   have a2:(D.isF.map AV.bool++rI).drop (D.isF.length+1)=rI.drop 1:=by rw [<-List.drop_drop,← hll,List.drop_left]
   rw [a1,a2,List.map_append]
   rfl
  rw [e]
  refine hK I cI (rI.drop 1) _ (by rw [ASt.set_ne h.n2];exact h.hd) ?_
  refine ⟨ASt.set_same _ _ _,?_,?_,h.cB,?_,?_,h.n1,h.n2,h.n3,h.z1,h.z2,h.z3,?_⟩
  ·rw [ASt.set_ne (Ne.symm h.n1),ASt.set_ne h.n3];exact h.hB
  ·rw [ASt.set_ne (Ne.symm h.n2),ASt.set_same]
  ·dsimp only
   rw [hnl,List.length_drop]
   clear hF
   omega
  ·rcases hF with ⟨x1,x2,x3⟩|⟨cF,rF,x1,x2,x3,x4,x5,x6,x7,x8⟩
   ·exact .inl ⟨x1,x2,x3⟩
   ·exact .inr ⟨cF,rF,x1,by rw [ASt.set_ne x5,ASt.set_ne x7];exact x2,x3,x4,x5,x6,x7,x8⟩
  ·intro x h1 h2 h3 h4
   rw [ASt.set_ne h1,ASt.set_ne h3]
   exact h.out x h1 h2 h3 h4
 ·rw [h1l] at hgrow hc'
  obtain ⟨f1,f2,f3,f4,f5⟩:=h.low hb'
  have e:ownRow 1 [AV.bool false] (((D.isF.map AV.bool++rI).drop 0).take (D.isF.length*1) ++ [AV.bool false].flatMap AV.cells) (D.isF.length + [AV.bool false].length) c'=(D.isF ++ [false]).map AV.bool++ownRow 1 [AV.bool false] [] (D.isF.length+1) c':=by
   unfold ownRow
   have hll:(D.isF.map AV.bool).length=D.isF.length:=List.length_map _
   rw [hfl,h1l,List.drop_zero,Nat.mul_one,List.map_append,← hll,List.take_left,List.nil_append]
   rfl
  have hol:(ownRow 1 [AV.bool false] [] (D.isF.length+1) c').length=c'-(D.isF.length+1):=by
   unfold ownRow
   simp
  rw [e]
  refine hK b' c' (ownRow 1 [AV.bool false] [] (D.isF.length+1) c') _ (by rw [ASt.set_ne (Ne.symm f1)];exact h.hd) ?_
  refine ⟨ASt.set_same _ _ _,?_,?_,h.cB,?_,?_,h.n1,Ne.symm f1,Ne.symm f2,h.z1,h.z2,f5,?_⟩
  ·rw [ASt.set_ne (Ne.symm h.n1),ASt.set_ne (Ne.symm f2)];exact h.hB
  ·rw [ASt.set_ne f1,ASt.set_same]
  ·dsimp only
   rw [hnl,hol]
   clear hF
   omega
  ·rcases hF with ⟨x1,x2,x3⟩|⟨cF,rF,x1,x2,x3,x4,x5,x6,x7,x8⟩
   ·exact .inl ⟨x1,x2,x3⟩
   ·exact .inr ⟨cF,rF,x1,by rw [ASt.set_ne x5,ASt.set_ne (Ne.symm f4)];exact x2,x3,x4,x5,x6,Ne.symm f4,x8⟩
  ·intro x h1 h2 h3 h4
   rw [ASt.set_ne h1,ASt.set_ne h3]
   by_cases hxI:x=I
   ·rw [hxI];exact .inr h.z3
   ·exact h.out x h1 h2 hxI h4
def tookP (D:Dsk):Dsk := { D with b:=layP (D.b++List.replicate 512 0) D.isF.length [],isF:=D.isF ++ [false],pt:=D.pt+1 }
set_option maxHeartbeats 1000000 in
theorem dktake_new (hT:CkT σ) (h:DM σ0 d D σ B cB rB fv F I cI rI) (hck:CkT σ0) (ho:D.ok) (hfree:D.free = []) (hroom:(D.isF.length:Int)<D.most) (hwl:D.wl = -1) (hpt:D.pt<1000000000) :
  ACalls Tryz.prog 27 [.ptr d 0] σ fun v σ'=>v = .tuple [.int .i64 D.isF.length,.int .i64 0]/\DiskAt σ0 d (tookP D) σ':=by
 have hm:=ho.most
 have hbl:=ho.len
 have hpt0:=ho.pt
 have hro:=dkroom_ok h ho
 have hf:=dkfailW_ok h ho
 have hfd:failD D.wl=(-1,0):=by rw [hwl];rfl
 have hDw:({ D with wl := -1 }:Dsk)=D:=by rw [<-hwl]
 rw [hfd] at hf
 dsimp only at hf
 rw [hDw] at hf
 have hset:σ.set d (some (.obj (D.cs B cB fv I cI)))=σ:=by
  funext x
  by_cases hx:x=d
  ·rw [hx,ASt.set_same,h.hd]
  ·rw [ASt.set_ne hx]
 rw [hset] at hf
 obtain ⟨D1,hD1⟩:∃ D1:Dsk,D1 = { D with pt:=D.pt+1 }:=⟨_,rfl⟩
 have h1:=h.cells (D':=D1) (by rw [hD1]) (by rw [hD1]) (by rw [hD1])
 have ho1:D1.ok:=by
  rw [hD1]
  exact ⟨ho.len,ho.one,ho.most,ho.free,ho.few,ho.rl,ho.wl,ho.rd,⟨by show 0<=D.pt+1;omega,by show D.pt+1<=1000000000;omega⟩⟩
 have hcnt:=dkcount_ok h1 ho1
 have hd:=h.hd
 have hd1:=h1.hd
 have hDc:D1.cs B cB fv I cI = [.msl B 0 D.b.length cB,.int .i64 D.most,fv,.msl I 0 D.isF.length cI,.int .i64 D.rl,.int .i64 D.wl,.int .i64 D.rd,.int .i64 (D.pt+1)]:=by rw [hD1];rfl
 rw [hfree,List.length_nil] at hro
 have e0:¬ (D.most-(D.isF.length:Int)+((0:Nat):Int))=0:=by omega
 have hi1:D1.isF=D.isF:=by rw [hD1]
 have hb1:D1.b=D.b:=by rw [hD1]
 have hfl:lenC fv=some (.int .i64 0):=by
  rcases h.hF with ⟨_,x,_⟩|⟨cF,rF,x1,_⟩
  ·rw [x];rfl
  ·rw [x1,hfree];rfl
 obtain ⟨τ1,hτ1⟩:∃ τ,τ=σ.set d (some (.obj (D1.cs B cB fv I cI))):=⟨_,rfl⟩
 rw [<-hτ1] at h1 hcnt hd1
 have hds:σ.set d (some (.obj [.msl B 0 D.b.length cB,.int .i64 D.most,fv,.msl I 0 D.isF.length cI,.int .i64 D.rl,.int .i64 D.wl,.int .i64 D.rd,.int .i64 (D.pt+1)]))=τ1:=by rw [hτ1,hDc]
 rw [hDc] at hd1
 rw [hi1] at hcnt
 unfold Dsk.cs at hd
 refine a27 (by simp) ?_
 simp (disch:=first|assumption|omega) only [go_sem,reduceCtorEq,↓reduceIte]
 refine hro.mono ?_
 rintro v σ' ⟨rfl,rfl⟩
 simp (disch:=first|assumption|omega) only [go_sem,reduceCtorEq,Nat.reduceEqDiff,↓reduceIte]
 refine hf.mono ?_
 rintro v σ'' ⟨rfl,rfl⟩
 simp (disch:=first|assumption|omega) only [go_sem,reduceCtorEq,Nat.reduceEqDiff,Nat.reduceAdd,Nat.reduceLeDiff,↓reduceIte,Bool.true_and,hd,hds]
 refine hcnt.mono ?_
 rintro v σ'' ⟨rfl,rfl⟩
 simp (disch:=first|assumption|omega) only [go_sem,reduceCtorEq,Int.reduceLT,↓reduceIte,hd1,hfl]
 have hlb:D.b.length=D1.b.length:=by rw [hb1]
 rw [hlb]
 refine h1.growB (by rw [hb1];omega) fun B' cB' rB' τ2 hτd h2=>?_
 rw [hDc,hlb] at hτd
 obtain ⟨D2,hD2⟩:∃ D2:Dsk,D2 = { D1 with b:=D1.b++List.replicate 512 0 }:=⟨_,rfl⟩
 rw [<-hD2] at h2
 have hDc2:D2.cs B' cB' fv I cI = [.msl B' 0 (D1.b.length+512) cB',.int .i64 D.most,fv,.msl I 0 D.isF.length cI,.int .i64 D.rl,.int .i64 D.wl,.int .i64 D.rd,.int .i64 (D.pt+1)]:=by
  have e:(D1.b++List.replicate 512 0).length=D1.b.length+512:=by rw [List.length_append,List.length_replicate]
  rw [hD2]
  unfold Dsk.cs
  dsimp only
  rw [e,hD1]
 obtain ⟨τ3,hτ3⟩:∃ τ,τ=τ2.set d (some (.obj (D2.cs B' cB' fv I cI))):=⟨_,rfl⟩
 rw [<-hτ3] at h2
 rw [hDc2] at hτ3
 have hd3:=h2.hd
 rw [hDc2] at hd3
 have hi2:D2.isF=D.isF:=by rw [hD2,hD1]
 simp (disch:=first|assumption|omega) only [go_sem,reduceCtorEq,Nat.reduceEqDiff,Nat.reduceAdd,Nat.reduceLeDiff,↓reduceIte,Bool.true_and,hτd]
 rw [<-hτ3]
 have hg2:=fun (K:AV->ASt->Prop) (e:TypeId)=>h2.growI (K:=K) (e:=e) (by rw [hi2];omega)
 rw [hi2] at hg2
 refine hg2 _ (0:TypeId) fun I' cI' rI' τ4 hτd4 h4=>?_
 rw [hDc2] at hτd4
 obtain ⟨D3,hD3⟩:∃ D3:Dsk,D3 = { D2 with isF:=D.isF ++ [false] }:=⟨_,rfl⟩
 rw [<-hD3] at h4
 have hDc3:D3.cs B' cB' fv I' cI' = [.msl B' 0 (D1.b.length+512) cB',.int .i64 D.most,fv,.msl I' 0 (D.isF.length+1) cI',.int .i64 D.rl,.int .i64 D.wl,.int .i64 D.rd,.int .i64 (D.pt+1)]:=by
  have e:(D1.b++List.replicate 512 0).length=D1.b.length+512:=by rw [List.length_append,List.length_replicate]
  have e2:(D.isF ++ [false]).length=D.isF.length+1:=by rw [List.length_append];rfl
  rw [hD3]
  unfold Dsk.cs
  dsimp only
  rw [e2,hD2]
  dsimp only
  rw [e,hD1]
 obtain ⟨τ5,hτ5⟩:∃ τ,τ=τ4.set d (some (.obj (D3.cs B' cB' fv I' cI'))):=⟨_,rfl⟩
 rw [<-hτ5] at h4
 rw [hDc3] at hτ5
 have hck5:CkT τ5:=h4.at hck
 have e2:(D.isF ++ [false]).length=D.isF.length+1:=by rw [List.length_append];rfl
 have hi3:D3.isF=D.isF ++ [false]:=by rw [hD3]
 have hb3:D3.b=D.b++List.replicate 512 0:=by rw [hD3,hD2,hD1]
 have ho3:D3.ok:=by
  refine ⟨?_,?_,?_,?_,?_,?_,?_,?_,?_⟩
  ·rw [hb3,hi3,e2,List.length_append,List.length_replicate];omega
  ·rw [hi3,e2];omega
  ·rw [hi3,e2,hD3,hD2,hD1];show ((D.isF.length+1:Nat):Int)<=D.most/\D.most<=60000;omega
  ·rw [hD3,hD2,hD1]
   intro p hp
   have hp:p∈D.free:=hp
   rw [hfree] at hp
   cases hp
  ·rw [hi3,e2,hD3,hD2,hD1];show D.free.length<=_;rw [hfree];exact Nat.zero_le _
  ·rw [hD3,hD2,hD1];exact ho.rl
  ·rw [hD3,hD2,hD1];exact ho.wl
  ·rw [hD3,hD2,hD1];exact ho.rd
  ·rw [hD3,hD2,hD1];exact ⟨by show 0<=D.pt+1;omega,by show D.pt+1<=1000000000;omega⟩
 have hlay:=dklay_ok hck5 h4 ho3 (p:=D.isF.length) (by rw [hi3,e2];omega) (s := []) (by decide)
 have h6:=h4.lay (b':=layP D3.b D.isF.length []) (layP_len (by decide) (by rw [hb3,List.length_append,List.length_replicate];omega))
 have hfin:({ D3 with b:=layP D3.b D.isF.length [] }:Dsk)=tookP D:=by rw [hb3,hD3,hD2,hD1];rfl
 rw [hfin] at h6
 simp (disch:=first|assumption|omega) only [go_sem,reduceCtorEq,Nat.reduceEqDiff,Nat.reduceAdd,Nat.reduceLeDiff,↓reduceIte,Bool.true_and,hτd4]
 rw [<-hτ5]
 refine hlay.mono ?_
 rintro v σ6 ⟨rfl,rfl⟩
 simp (disch:=first|assumption|omega) only [go_sem,Nat.reduceEqDiff,↓reduceIte]
 exact retC_by (.refl _) (.refl _) ⟨rfl,B',cB',rB',fv,F,I',cI',rI',h6⟩
end
end Go.A
namespace Go.Proofs
open Go.Shelf
def Tryz.lays169_ren:Go.Shelf.Ren:=⟨fun|169=>49|n=>n,fun|70=>98|9=>9|0=>0|72=>100|37=>55|127=>149|3=>3|5=>5|n=>n,fun|n=>n⟩
theorem Tryz.lays169:Go.Proofs.Lays.n169 Tryz.prog Tryz.lays169_ren := {
 mixed:=by kernel_rfl
 f169:=Tryz.func49.trans (congrArg some (by kernel_rfl))
 t0:=Tryz.underlying0
 a0:=Tryz.isAgg0
 z0:=Tryz.sizeOf0
 v0:=Tryz.zeroValue0
 t3:=Tryz.underlying3
 a3:=Tryz.isAgg3
 z3:=Tryz.sizeOf3
 v3:=Tryz.zeroValue3
 t9:=Tryz.underlying9
 a9:=Tryz.isAgg9
 z9:=Tryz.sizeOf9
 v9:=Tryz.zeroValue9
 t37:=Tryz.underlying55
 a37:=Tryz.isAgg55
 z37:=Tryz.sizeOf55
 v37:=Tryz.zeroValue55
 t70:=Tryz.underlying98
 a70:=Tryz.isAgg98
 z70:=Tryz.sizeOf98
 v70:=Tryz.zeroValue98
 t72:=Tryz.underlying100
 a72:=Tryz.isAgg100
 z72:=Tryz.sizeOf100
 v72:=Tryz.zeroValue100
 t127:=Tryz.underlying149
 a127:=Tryz.isAgg149
 z127:=Tryz.sizeOf149
 v127:=Tryz.zeroValue149 }
theorem Tryz.Builder_Extra_169:Builder.Extra Tryz.prog Tryz.lays169_ren := {
 sizeBuilder:=by kernel_rfl
 liesBuilder:=by kernel_rfl
 t5:=Tryz.underlying5
 a5:=Tryz.isAgg5
 z5:=Tryz.sizeOf5
 v5:=Tryz.zeroValue5
 infoByte:=by kernel_rfl
 cellsByte:=by kernel_rfl
 sizeByte:=by kernel_rfl
 neB5:=by decide }
def Tryz.lays162_ren:Go.Shelf.Ren:=⟨fun|162=>116|232=>143|227=>144|234=>145|236=>146|228=>165|271=>166|151=>167|120=>182|197=>126|152=>183|260=>149|137=>191|119=>192|224=>152|225=>151|217=>150|266=>171|n=>n,fun|9=>9|4=>4|3=>3|5=>5|117=>183|116=>182|0=>0|124=>186|21=>21|105=>159|46=>150|119=>200|139=>203|138=>202|n=>n,fun|3=>3|4=>4|n=>n⟩
theorem Tryz.lays162:Go.Proofs.Lays.n162 Tryz.prog Tryz.lays162_ren := {
 mixed:=by kernel_rfl
 f119:=Tryz.func192.trans (congrArg some (by kernel_rfl))
 f120:=Tryz.func182.trans (congrArg some (by kernel_rfl))
 f137:=Tryz.func191.trans (congrArg some (by kernel_rfl))
 f151:=Tryz.func167.trans (congrArg some (by kernel_rfl))
 f152:=Tryz.func183.trans (congrArg some (by kernel_rfl))
 f162:=Tryz.func116.trans (congrArg some (by kernel_rfl))
 f197:=Tryz.func126.trans (congrArg some (by kernel_rfl))
 f217:=Tryz.func150.trans (congrArg some (by kernel_rfl))
 f224:=Tryz.func152.trans (congrArg some (by kernel_rfl))
 f225:=Tryz.func151.trans (congrArg some (by kernel_rfl))
 f227:=Tryz.func144.trans (congrArg some (by kernel_rfl))
 f228:=Tryz.func165.trans (congrArg some (by kernel_rfl))
 f232:=Tryz.func143.trans (congrArg some (by kernel_rfl))
 f234:=Tryz.func145.trans (congrArg some (by kernel_rfl))
 f236:=Tryz.func146.trans (congrArg some (by kernel_rfl))
 f260:=Tryz.func149.trans (congrArg some (by kernel_rfl))
 f266:=Tryz.func171.trans (congrArg some (by kernel_rfl))
 f271:=Tryz.func166.trans (congrArg some (by kernel_rfl))
 t0:=Tryz.underlying0
 a0:=Tryz.isAgg0
 z0:=Tryz.sizeOf0
 v0:=Tryz.zeroValue0
 t3:=Tryz.underlying3
 a3:=Tryz.isAgg3
 z3:=Tryz.sizeOf3
 v3:=Tryz.zeroValue3
 t4:=Tryz.underlying4
 a4:=Tryz.isAgg4
 z4:=Tryz.sizeOf4
 v4:=Tryz.zeroValue4
 t5:=Tryz.underlying5
 a5:=Tryz.isAgg5
 z5:=Tryz.sizeOf5
 v5:=Tryz.zeroValue5
 t9:=Tryz.underlying9
 a9:=Tryz.isAgg9
 z9:=Tryz.sizeOf9
 v9:=Tryz.zeroValue9
 t21:=Tryz.underlying21
 a21:=Tryz.isAgg21
 z21:=Tryz.sizeOf21
 v21:=Tryz.zeroValue21
 t46:=Tryz.underlying150
 a46:=Tryz.isAgg150
 z46:=Tryz.sizeOf150
 v46:=Tryz.zeroValue150
 t105:=Tryz.underlying159
 a105:=Tryz.isAgg159
 z105:=Tryz.sizeOf159
 v105:=Tryz.zeroValue159
 t116:=Tryz.underlying182
 a116:=Tryz.isAgg182
 z116:=Tryz.sizeOf182
 t117:=Tryz.underlying183
 a117:=Tryz.isAgg183
 z117:=Tryz.sizeOf183
 v117:=Tryz.zeroValue183
 t119:=Tryz.underlying200
 a119:=Tryz.isAgg200
 z119:=Tryz.sizeOf200
 t124:=Tryz.underlying186
 a124:=Tryz.isAgg186
 z124:=Tryz.sizeOf186
 v124:=Tryz.zeroValue186
 t138:=Tryz.underlying202
 a138:=Tryz.isAgg202
 z138:=Tryz.sizeOf202
 v138:=Tryz.zeroValue202
 t139:=Tryz.underlying203
 a139:=Tryz.isAgg203
 z139:=Tryz.sizeOf203
 v139:=Tryz.zeroValue203
 g3:=by kernel_rfl
 g4:=by kernel_rfl }
open Go.RowKit in
theorem Tryz.strings_TrimRight_one (s:ByteArray) (c:UInt8) (hc:c.toNat<128) (w:World) (hs:s.size<=9223372036854775807) :
  Calls Tryz.prog 116 #[.string s,.string ⟨#[c]⟩] w fun e w'=>e = .returned (.string ⟨(Lib.trimRightB s.data.toList c).toArray⟩)/\w'=w:=Any.strings_TrimRight_one Tryz.lays162 s c hc w hs
def Tryz.lays118_ren:Go.Shelf.Ren:=⟨fun|118=>135|n=>n,fun|21=>21|3=>3|4=>4|n=>n,fun|n=>n⟩
theorem Tryz.lays118:Go.Proofs.Lays.n118 Tryz.prog Tryz.lays118_ren := {
 mixed:=by kernel_rfl
 f118:=Tryz.func135.trans (congrArg some (by kernel_rfl))
 t3:=Tryz.underlying3
 a3:=Tryz.isAgg3
 z3:=Tryz.sizeOf3
 v3:=Tryz.zeroValue3
 t4:=Tryz.underlying4
 a4:=Tryz.isAgg4
 z4:=Tryz.sizeOf4
 v4:=Tryz.zeroValue4
 t21:=Tryz.underlying21
 a21:=Tryz.isAgg21
 z21:=Tryz.sizeOf21
 v21:=Tryz.zeroValue21 }
theorem Tryz.utf8_RuneLen (r:Int) (w:World) :
  Calls Tryz.prog 135 #[.int .i32 r] w fun e w'=>e = .returned (.int .i64 (Lib.runeLen r))/\w'=w:=Any.utf8_RuneLen Tryz.lays118 r w
def Tryz.lays103_ren:Go.Shelf.Ren:=⟨fun|103=>63|210=>99|206=>128|n=>n,fun|9=>9|4=>4|24=>70|3=>3|n=>n,fun|n=>n⟩
theorem Tryz.lays103:Go.Proofs.Lays.n103 Tryz.prog Tryz.lays103_ren := {
 mixed:=by kernel_rfl
 f103:=Tryz.func63.trans (congrArg some (by kernel_rfl))
 f206:=Tryz.func128.trans (congrArg some (by kernel_rfl))
 f210:=Tryz.func99.trans (congrArg some (by kernel_rfl))
 t3:=Tryz.underlying3
 a3:=Tryz.isAgg3
 z3:=Tryz.sizeOf3
 v3:=Tryz.zeroValue3
 t4:=Tryz.underlying4
 a4:=Tryz.isAgg4
 z4:=Tryz.sizeOf4
 v4:=Tryz.zeroValue4
 t9:=Tryz.underlying9
 a9:=Tryz.isAgg9
 z9:=Tryz.sizeOf9
 v9:=Tryz.zeroValue9
 t24:=Tryz.underlying70
 a24:=Tryz.isAgg70
 z24:=Tryz.sizeOf70
 v24:=Tryz.zeroValue70 }
open Go.RowKit in
theorem Tryz.strings_CutPrefix (s p:ByteArray) (w:World) :
  Calls Tryz.prog 63 #[.string s,.string p] w fun e w'=>e = .returned (.tuple #[.string ⟨(Lib.trimPrefix s.data.toList p.data.toList).toArray⟩,.bool (Lib.hasPrefix s.data.toList p.data.toList)])/\w'=w:=Any.strings_CutPrefix Tryz.lays103 s p w
def Tryz.lays195_ren:Go.Shelf.Ren:=⟨fun|195=>108|n=>n,fun|9=>9|3=>3|0=>0|4=>4|n=>n,fun|n=>n⟩
theorem Tryz.lays195:Go.Proofs.Lays.n195 Tryz.prog Tryz.lays195_ren := {
 mixed:=by kernel_rfl
 f195:=Tryz.func108.trans (congrArg some (by kernel_rfl))
 t0:=Tryz.underlying0
 a0:=Tryz.isAgg0
 z0:=Tryz.sizeOf0
 v0:=Tryz.zeroValue0
 t3:=Tryz.underlying3
 a3:=Tryz.isAgg3
 z3:=Tryz.sizeOf3
 v3:=Tryz.zeroValue3
 t4:=Tryz.underlying4
 a4:=Tryz.isAgg4
 z4:=Tryz.sizeOf4
 v4:=Tryz.zeroValue4
 t9:=Tryz.underlying9
 a9:=Tryz.isAgg9
 z9:=Tryz.sizeOf9
 v9:=Tryz.zeroValue9 }
open Go.RowKit in
theorem Tryz.utf8_RuneCountInString (s:ByteArray) (w:World) (hs:s.size<9223372036854775807) :
  Calls Tryz.prog 108 #[.string s] w fun e w'=>e = .returned (.int .i64 (Lib.runeCount s))/\∃ pos,w'=w.iter s pos:=Any.utf8_RuneCountInString Tryz.lays195 s w hs
def Tryz.lays283_ren:Go.Shelf.Ren:=⟨fun|283=>161|n=>n,fun|3=>3|9=>9|4=>4|n=>n,fun|n=>n⟩
theorem Tryz.lays283:Go.Proofs.Lays.n283 Tryz.prog Tryz.lays283_ren := {
 mixed:=by kernel_rfl
 f283:=Tryz.func161.trans (congrArg some (by kernel_rfl))
 t3:=Tryz.underlying3
 a3:=Tryz.isAgg3
 z3:=Tryz.sizeOf3
 v3:=Tryz.zeroValue3
 t4:=Tryz.underlying4
 a4:=Tryz.isAgg4
 z4:=Tryz.sizeOf4
 v4:=Tryz.zeroValue4
 t9:=Tryz.underlying9
 a9:=Tryz.isAgg9
 z9:=Tryz.sizeOf9
 v9:=Tryz.zeroValue9 }
open Go.Lib in
theorem Tryz.internal_strconv_small (i:Nat) (h:i<100) (w:World) :
  Calls Tryz.prog 161 #[.int .i64 i] w fun e w'=>e = .returned (.string ⟨(Lib.decDigits i).toArray⟩)/\w'=w:=Any.internal_strconv_small Tryz.lays283 i h w
def Tryz.laysM284_ren:Go.Shelf.Ren:=⟨fun|284=>162|129=>178|317=>177|318=>179|n=>n,fun|53=>103|3=>3|212=>211|0=>0|4=>4|46=>150|5=>5|9=>9|n=>n,fun|17=>5|n=>n⟩
theorem Tryz.laysM284:Go.Proofs.LaysM.n284 Tryz.prog Tryz.laysM284_ren := {
 mixed:=by kernel_rfl
 f129:=Tryz.func178.trans (congrArg some (by kernel_rfl))
 f284:=Tryz.func162.trans (congrArg some (by kernel_rfl))
 f317:=Tryz.func177.trans (congrArg some (by kernel_rfl))
 f318:=Tryz.func179.trans (congrArg some (by kernel_rfl))
 t0:=Tryz.underlying0
 a0:=Tryz.isAgg0
 z0:=Tryz.sizeOf0
 v0:=Tryz.zeroValue0
 t3:=Tryz.underlying3
 a3:=Tryz.isAgg3
 z3:=Tryz.sizeOf3
 v3:=Tryz.zeroValue3
 t4:=Tryz.underlying4
 a4:=Tryz.isAgg4
 z4:=Tryz.sizeOf4
 v4:=Tryz.zeroValue4
 t5:=Tryz.underlying5
 a5:=Tryz.isAgg5
 z5:=Tryz.sizeOf5
 v5:=Tryz.zeroValue5
 t9:=Tryz.underlying9
 a9:=Tryz.isAgg9
 z9:=Tryz.sizeOf9
 v9:=Tryz.zeroValue9
 t46:=Tryz.underlying150
 a46:=Tryz.isAgg150
 z46:=Tryz.sizeOf150
 v46:=Tryz.zeroValue150
 t53:=Tryz.underlying103
 a53:=Tryz.isAgg103
 z53:=Tryz.sizeOf103
 v53:=Tryz.zeroValue103
 t212:=Tryz.underlying211
 a212:=Tryz.isAgg211
 z212:=Tryz.sizeOf211
 v212:=Tryz.zeroValue211
 g17:=by kernel_rfl
 i0:=by kernel_rfl
 i3:=by kernel_rfl
 i4:=by kernel_rfl
 i5:=by kernel_rfl
 i9:=by kernel_rfl
 i46:=by kernel_rfl
 i53:=by kernel_rfl
 i212:=by kernel_rfl
 m17:=by kernel_rfl }
open Go.Lib in
theorem Tryz.internal_strconv_numDigits (u : Nat) (h1 : 1 ≤ u) (h2 : u < 18446744073709551616) (w : World) (htab : Lib.TabIs Tryz.prog w "internal/strconv.uint64pow10" .u64 Lib.pow10Tab) :
  Calls Tryz.prog 162 #[.int .u64 u] w fun e w'=>e = .returned (.int .i64 (Lib.nDigits u))/\w'=w:=Any.internal_strconv_numDigits Tryz.laysM284 u h1 h2 w htab
def Tryz.lays285_ren:Go.Shelf.Ren:=⟨fun|285=>163|n=>n,fun|37=>55|53=>103|3=>3|4=>4|51=>117|9=>9|5=>5|0=>0|n=>n,fun|n=>n⟩
theorem Tryz.lays285:Go.Proofs.Lays.n285 Tryz.prog Tryz.lays285_ren := {
 mixed:=by kernel_rfl
 f285:=Tryz.func163.trans (congrArg some (by kernel_rfl))
 t0:=Tryz.underlying0
 a0:=Tryz.isAgg0
 z0:=Tryz.sizeOf0
 v0:=Tryz.zeroValue0
 t3:=Tryz.underlying3
 a3:=Tryz.isAgg3
 z3:=Tryz.sizeOf3
 v3:=Tryz.zeroValue3
 t4:=Tryz.underlying4
 a4:=Tryz.isAgg4
 z4:=Tryz.sizeOf4
 v4:=Tryz.zeroValue4
 t5:=Tryz.underlying5
 a5:=Tryz.isAgg5
 z5:=Tryz.sizeOf5
 v5:=Tryz.zeroValue5
 t9:=Tryz.underlying9
 a9:=Tryz.isAgg9
 z9:=Tryz.sizeOf9
 v9:=Tryz.zeroValue9
 t37:=Tryz.underlying55
 a37:=Tryz.isAgg55
 z37:=Tryz.sizeOf55
 v37:=Tryz.zeroValue55
 t51:=Tryz.underlying117
 a51:=Tryz.isAgg117
 z51:=Tryz.sizeOf117
 v51:=Tryz.zeroValue117
 t53:=Tryz.underlying103
 a53:=Tryz.isAgg103
 z53:=Tryz.sizeOf103
 v53:=Tryz.zeroValue103 }
open Go.RowKit Go.Sort Go.Lib in
theorem Tryz.internal_strconv_formatBase10 (blk off cap:Nat) (u:Nat) (d:Array UInt8) (w:World) (hH:Holds (fun (b:UInt8)=>Value.int .u8 (b.toNat:Int)) w blk off d) (hu:u<10 ^ d.size) (hu64:u<18446744073709551616) (hsz:d.size<4611686018427387904) :
  Calls Tryz.prog 163 #[.slice (some ⟨blk,off,none⟩) d.size cap,.int .u64 u] w fun e w'=>
   e = .returned (.tuple #[])/\∃ (n v':Nat) (dk:Array UInt8),w'=(putRow (fun (b:UInt8)=>Value.int .u8 (b.toNat:Int)) w blk off dk).drewN n/\FmtInv d.size u 0 v' dk:=Any.internal_strconv_formatBase10 Tryz.lays285 blk off cap u d w hH hu hu64 hsz
def Tryz.laysM171_ren:Go.Shelf.Ren:=⟨fun|171=>122|243=>148|246=>170|283=>161|284=>162|285=>163|286=>164|129=>178|317=>177|318=>179|319=>180|320=>181|337=>189|338=>190|n=>n,fun|3=>3|9=>9|2=>2|4=>4|171=>193|0=>0|53=>103|37=>55|5=>5|173=>196|212=>211|51=>117|20=>20|213=>212|46=>150|232=>220|233=>221|n=>n,fun|17=>5|18=>6|19=>7|n=>n⟩
theorem Tryz.laysM171:Go.Proofs.LaysM.n171 Tryz.prog Tryz.laysM171_ren := {
 mixed:=by kernel_rfl
 f129:=Tryz.func178.trans (congrArg some (by kernel_rfl))
 f171:=Tryz.func122.trans (congrArg some (by kernel_rfl))
 f243:=Tryz.func148.trans (congrArg some (by kernel_rfl))
 f246:=Tryz.func170.trans (congrArg some (by kernel_rfl))
 f283:=Tryz.func161.trans (congrArg some (by kernel_rfl))
 f284:=Tryz.func162.trans (congrArg some (by kernel_rfl))
 f285:=Tryz.func163.trans (congrArg some (by kernel_rfl))
 f286:=Tryz.func164.trans (congrArg some (by kernel_rfl))
 f317:=Tryz.func177.trans (congrArg some (by kernel_rfl))
 f318:=Tryz.func179.trans (congrArg some (by kernel_rfl))
 f319:=Tryz.func180.trans (congrArg some (by kernel_rfl))
 f320:=Tryz.func181.trans (congrArg some (by kernel_rfl))
 f337:=Tryz.func189.trans (congrArg some (by kernel_rfl))
 f338:=Tryz.func190.trans (congrArg some (by kernel_rfl))
 t0:=Tryz.underlying0
 a0:=Tryz.isAgg0
 z0:=Tryz.sizeOf0
 v0:=Tryz.zeroValue0
 t2:=Tryz.underlying2
 a2:=Tryz.isAgg2
 z2:=Tryz.sizeOf2
 v2:=Tryz.zeroValue2
 t3:=Tryz.underlying3
 a3:=Tryz.isAgg3
 z3:=Tryz.sizeOf3
 v3:=Tryz.zeroValue3
 t4:=Tryz.underlying4
 a4:=Tryz.isAgg4
 z4:=Tryz.sizeOf4
 v4:=Tryz.zeroValue4
 t5:=Tryz.underlying5
 a5:=Tryz.isAgg5
 z5:=Tryz.sizeOf5
 v5:=Tryz.zeroValue5
 t9:=Tryz.underlying9
 a9:=Tryz.isAgg9
 z9:=Tryz.sizeOf9
 v9:=Tryz.zeroValue9
 t20:=Tryz.underlying20
 a20:=Tryz.isAgg20
 z20:=Tryz.sizeOf20
 v20:=Tryz.zeroValue20
 t37:=Tryz.underlying55
 a37:=Tryz.isAgg55
 z37:=Tryz.sizeOf55
 v37:=Tryz.zeroValue55
 t46:=Tryz.underlying150
 a46:=Tryz.isAgg150
 z46:=Tryz.sizeOf150
 v46:=Tryz.zeroValue150
 t51:=Tryz.underlying117
 a51:=Tryz.isAgg117
 z51:=Tryz.sizeOf117
 v51:=Tryz.zeroValue117
 t53:=Tryz.underlying103
 a53:=Tryz.isAgg103
 z53:=Tryz.sizeOf103
 v53:=Tryz.zeroValue103
 t171:=Tryz.underlying193
 a171:=Tryz.isAgg193
 z171:=Tryz.sizeOf193
 v171:=Tryz.zeroValue193
 t173:=Tryz.underlying196
 a173:=Tryz.isAgg196
 z173:=Tryz.sizeOf196
 v173:=Tryz.zeroValue196
 t212:=Tryz.underlying211
 a212:=Tryz.isAgg211
 z212:=Tryz.sizeOf211
 v212:=Tryz.zeroValue211
 t213:=Tryz.underlying212
 a213:=Tryz.isAgg212
 z213:=Tryz.sizeOf212
 t232:=Tryz.underlying220
 a232:=Tryz.isAgg220
 z232:=Tryz.sizeOf220
 v232:=Tryz.zeroValue220
 t233:=Tryz.underlying221
 a233:=Tryz.isAgg221
 z233:=Tryz.sizeOf221
 v233:=Tryz.zeroValue221
 g17:=by kernel_rfl
 g18:=by kernel_rfl
 g19:=by kernel_rfl
 i0:=by kernel_rfl
 i2:=by kernel_rfl
 i3:=by kernel_rfl
 i4:=by kernel_rfl
 i5:=by kernel_rfl
 i9:=by kernel_rfl
 i20:=by kernel_rfl
 i37:=by kernel_rfl
 i46:=by kernel_rfl
 i51:=by kernel_rfl
 i53:=by kernel_rfl
 i171:=by kernel_rfl
 i173:=by kernel_rfl
 i212:=by kernel_rfl
 i232:=by kernel_rfl
 i233:=by kernel_rfl
 m17:=by kernel_rfl
 m18:=by kernel_rfl
 m19:=by kernel_rfl }
open Go.RowKit Go.Sort Go.Lib in
theorem Tryz.strconv_Itoa (n : Int) (h0 : -9223372036854775808 ≤ n) (h1 : n ≤ 9223372036854775807) (w : World) (htab : Lib.TabIs Tryz.prog w "internal/strconv.uint64pow10" .u64 Lib.pow10Tab) :
  Calls Tryz.prog 122 #[.int .i64 n] w fun e w'=>e = .returned (.string ⟨(Lib.itoa n).toArray⟩)/\∃ k os,w'=grow (w.drewN k) os:=Any.strconv_Itoa Tryz.laysM171 n h0 h1 w htab
def Tryz.lays219_ren:Go.Shelf.Ren:=⟨fun|219=>129|217=>150|225=>151|224=>152|267=>153|266=>171|314=>172|n=>n,fun|9=>9|3=>3|4=>4|5=>5|46=>150|146=>204|51=>117|n=>n,fun|1=>2|n=>n⟩
theorem Tryz.lays219:Go.Proofs.Lays.n219 Tryz.prog Tryz.lays219_ren := {
 mixed:=by kernel_rfl
 f217:=Tryz.func150.trans (congrArg some (by kernel_rfl))
 f219:=Tryz.func129.trans (congrArg some (by kernel_rfl))
 f224:=Tryz.func152.trans (congrArg some (by kernel_rfl))
 f225:=Tryz.func151.trans (congrArg some (by kernel_rfl))
 f266:=Tryz.func171.trans (congrArg some (by kernel_rfl))
 f267:=Tryz.func153.trans (congrArg some (by kernel_rfl))
 f314:=Tryz.func172.trans (congrArg some (by kernel_rfl))
 t3:=Tryz.underlying3
 a3:=Tryz.isAgg3
 z3:=Tryz.sizeOf3
 v3:=Tryz.zeroValue3
 t4:=Tryz.underlying4
 a4:=Tryz.isAgg4
 z4:=Tryz.sizeOf4
 v4:=Tryz.zeroValue4
 t5:=Tryz.underlying5
 a5:=Tryz.isAgg5
 z5:=Tryz.sizeOf5
 v5:=Tryz.zeroValue5
 t9:=Tryz.underlying9
 a9:=Tryz.isAgg9
 z9:=Tryz.sizeOf9
 v9:=Tryz.zeroValue9
 t46:=Tryz.underlying150
 a46:=Tryz.isAgg150
 z46:=Tryz.sizeOf150
 v46:=Tryz.zeroValue150
 t51:=Tryz.underlying117
 a51:=Tryz.isAgg117
 z51:=Tryz.sizeOf117
 v51:=Tryz.zeroValue117
 t146:=Tryz.underlying204
 a146:=Tryz.isAgg204
 z146:=Tryz.sizeOf204
 v146:=Tryz.zeroValue204
 g1:=by kernel_rfl }
open Go.RowKit Go.Lib in
theorem Tryz.stringslite_Index_one (s:ByteArray) (c:UInt8) (w:World) :
  Calls Tryz.prog 129 #[.string s,.string ⟨#[c]⟩] w fun e w'=>e = .returned (.int .i64 (Lib.indexByte s.data.toList c))/\w'=w:=Any.stringslite_Index_one Tryz.lays219 s c w
def Tryz.lays144_ren:Go.Shelf.Ren:=⟨fun|144=>138|143=>157|219=>129|217=>150|225=>151|224=>152|267=>153|266=>171|314=>172|n=>n,fun|9=>9|4=>4|3=>3|5=>5|46=>150|146=>204|51=>117|n=>n,fun|1=>2|n=>n⟩
theorem Tryz.lays144:Go.Proofs.Lays.n144 Tryz.prog Tryz.lays144_ren := {
 mixed:=by kernel_rfl
 f143:=Tryz.func157.trans (congrArg some (by kernel_rfl))
 f144:=Tryz.func138.trans (congrArg some (by kernel_rfl))
 f217:=Tryz.func150.trans (congrArg some (by kernel_rfl))
 f219:=Tryz.func129.trans (congrArg some (by kernel_rfl))
 f224:=Tryz.func152.trans (congrArg some (by kernel_rfl))
 f225:=Tryz.func151.trans (congrArg some (by kernel_rfl))
 f266:=Tryz.func171.trans (congrArg some (by kernel_rfl))
 f267:=Tryz.func153.trans (congrArg some (by kernel_rfl))
 f314:=Tryz.func172.trans (congrArg some (by kernel_rfl))
 t3:=Tryz.underlying3
 a3:=Tryz.isAgg3
 z3:=Tryz.sizeOf3
 v3:=Tryz.zeroValue3
 t4:=Tryz.underlying4
 a4:=Tryz.isAgg4
 z4:=Tryz.sizeOf4
 v4:=Tryz.zeroValue4
 t5:=Tryz.underlying5
 a5:=Tryz.isAgg5
 z5:=Tryz.sizeOf5
 v5:=Tryz.zeroValue5
 t9:=Tryz.underlying9
 a9:=Tryz.isAgg9
 z9:=Tryz.sizeOf9
 v9:=Tryz.zeroValue9
 t46:=Tryz.underlying150
 a46:=Tryz.isAgg150
 z46:=Tryz.sizeOf150
 v46:=Tryz.zeroValue150
 t51:=Tryz.underlying117
 a51:=Tryz.isAgg117
 z51:=Tryz.sizeOf117
 v51:=Tryz.zeroValue117
 t146:=Tryz.underlying204
 a146:=Tryz.isAgg204
 z146:=Tryz.sizeOf204
 v146:=Tryz.zeroValue204
 g1:=by kernel_rfl }
open Go.RowKit Go.Lib in
theorem Tryz.strings_Contains_one (s:ByteArray) (c:UInt8) (w:World) :
  Calls Tryz.prog 138 #[.string s,.string ⟨#[c]⟩] w fun e w'=>e = .returned (.bool (decide (0<=Lib.indexByte s.data.toList c)))/\w'=w:=Any.strings_Contains_one Tryz.lays144 s c w
def Tryz.lays99_ren:Go.Shelf.Ren:=⟨fun|99=>137|206=>128|n=>n,fun|9=>9|4=>4|3=>3|n=>n,fun|n=>n⟩
theorem Tryz.lays99:Go.Proofs.Lays.n99 Tryz.prog Tryz.lays99_ren := {
 mixed:=by kernel_rfl
 f99:=Tryz.func137.trans (congrArg some (by kernel_rfl))
 f206:=Tryz.func128.trans (congrArg some (by kernel_rfl))
 t3:=Tryz.underlying3
 a3:=Tryz.isAgg3
 z3:=Tryz.sizeOf3
 v3:=Tryz.zeroValue3
 t4:=Tryz.underlying4
 a4:=Tryz.isAgg4
 z4:=Tryz.sizeOf4
 v4:=Tryz.zeroValue4
 t9:=Tryz.underlying9
 a9:=Tryz.isAgg9
 z9:=Tryz.sizeOf9
 v9:=Tryz.zeroValue9 }
open Go.RowKit Go.Lib in
theorem Tryz.strings_HasPrefix (s p:ByteArray) (w:World) :
  Calls Tryz.prog 137 #[.string s,.string p] w fun e w'=>e = .returned (.bool (Lib.hasPrefix s.data.toList p.data.toList))/\w'=w:=Any.strings_HasPrefix Tryz.lays99 s p w
def Tryz.lays155_ren:Go.Shelf.Ren:=⟨fun|155=>117|154=>147|138=>168|165=>169|143=>157|166=>76|197=>126|169=>49|195=>108|218=>184|240=>113|241=>185|219=>129|260=>149|276=>141|277=>193|217=>150|225=>151|224=>152|267=>153|266=>171|314=>172|n=>n,fun|9=>9|3=>3|4=>4|72=>100|0=>0|76=>141|105=>159|21=>21|5=>5|70=>98|20=>20|37=>55|75=>140|127=>149|164=>178|46=>150|119=>200|139=>203|138=>202|146=>204|51=>117|80=>64|n=>n,fun|1=>2|3=>3|4=>4|n=>n⟩
theorem Tryz.lays155:Go.Proofs.Lays.n155 Tryz.prog Tryz.lays155_ren := {
 mixed:=by kernel_rfl
 f138:=Tryz.func168.trans (congrArg some (by kernel_rfl))
 f143:=Tryz.func157.trans (congrArg some (by kernel_rfl))
 f154:=Tryz.func147.trans (congrArg some (by kernel_rfl))
 f155:=Tryz.func117.trans (congrArg some (by kernel_rfl))
 f165:=Tryz.func169.trans (congrArg some (by kernel_rfl))
 f166:=Tryz.func76.trans (congrArg some (by kernel_rfl))
 f169:=Tryz.func49.trans (congrArg some (by kernel_rfl))
 f195:=Tryz.func108.trans (congrArg some (by kernel_rfl))
 f197:=Tryz.func126.trans (congrArg some (by kernel_rfl))
 f217:=Tryz.func150.trans (congrArg some (by kernel_rfl))
 f218:=Tryz.func184.trans (congrArg some (by kernel_rfl))
 f219:=Tryz.func129.trans (congrArg some (by kernel_rfl))
 f224:=Tryz.func152.trans (congrArg some (by kernel_rfl))
 f225:=Tryz.func151.trans (congrArg some (by kernel_rfl))
 f240:=Tryz.func113.trans (congrArg some (by kernel_rfl))
 f241:=Tryz.func185.trans (congrArg some (by kernel_rfl))
 f260:=Tryz.func149.trans (congrArg some (by kernel_rfl))
 f266:=Tryz.func171.trans (congrArg some (by kernel_rfl))
 f267:=Tryz.func153.trans (congrArg some (by kernel_rfl))
 f276:=Tryz.func141.trans (congrArg some (by kernel_rfl))
 f277:=Tryz.func193.trans (congrArg some (by kernel_rfl))
 f314:=Tryz.func172.trans (congrArg some (by kernel_rfl))
 t0:=Tryz.underlying0
 a0:=Tryz.isAgg0
 z0:=Tryz.sizeOf0
 v0:=Tryz.zeroValue0
 t3:=Tryz.underlying3
 a3:=Tryz.isAgg3
 z3:=Tryz.sizeOf3
 v3:=Tryz.zeroValue3
 t4:=Tryz.underlying4
 a4:=Tryz.isAgg4
 z4:=Tryz.sizeOf4
 v4:=Tryz.zeroValue4
 t5:=Tryz.underlying5
 a5:=Tryz.isAgg5
 z5:=Tryz.sizeOf5
 v5:=Tryz.zeroValue5
 t9:=Tryz.underlying9
 a9:=Tryz.isAgg9
 z9:=Tryz.sizeOf9
 v9:=Tryz.zeroValue9
 t20:=Tryz.underlying20
 a20:=Tryz.isAgg20
 z20:=Tryz.sizeOf20
 v20:=Tryz.zeroValue20
 t21:=Tryz.underlying21
 a21:=Tryz.isAgg21
 z21:=Tryz.sizeOf21
 v21:=Tryz.zeroValue21
 t37:=Tryz.underlying55
 a37:=Tryz.isAgg55
 z37:=Tryz.sizeOf55
 v37:=Tryz.zeroValue55
 t46:=Tryz.underlying150
 a46:=Tryz.isAgg150
 z46:=Tryz.sizeOf150
 v46:=Tryz.zeroValue150
 t51:=Tryz.underlying117
 a51:=Tryz.isAgg117
 z51:=Tryz.sizeOf117
 v51:=Tryz.zeroValue117
 t70:=Tryz.underlying98
 a70:=Tryz.isAgg98
 z70:=Tryz.sizeOf98
 v70:=Tryz.zeroValue98
 t72:=Tryz.underlying100
 a72:=Tryz.isAgg100
 z72:=Tryz.sizeOf100
 v72:=Tryz.zeroValue100
 t75:=Tryz.underlying140
 a75:=Tryz.isAgg140
 z75:=Tryz.sizeOf140
 v75:=Tryz.zeroValue140
 t76:=Tryz.underlying141
 a76:=Tryz.isAgg141
 z76:=Tryz.sizeOf141
 v76:=Tryz.zeroValue141
 t105:=Tryz.underlying159
 a105:=Tryz.isAgg159
 z105:=Tryz.sizeOf159
 v105:=Tryz.zeroValue159
 t119:=Tryz.underlying200
 a119:=Tryz.isAgg200
 z119:=Tryz.sizeOf200
 t127:=Tryz.underlying149
 a127:=Tryz.isAgg149
 z127:=Tryz.sizeOf149
 v127:=Tryz.zeroValue149
 t138:=Tryz.underlying202
 a138:=Tryz.isAgg202
 z138:=Tryz.sizeOf202
 v138:=Tryz.zeroValue202
 t139:=Tryz.underlying203
 a139:=Tryz.isAgg203
 z139:=Tryz.sizeOf203
 v139:=Tryz.zeroValue203
 t146:=Tryz.underlying204
 a146:=Tryz.isAgg204
 z146:=Tryz.sizeOf204
 v146:=Tryz.zeroValue204
 t164:=Tryz.underlying178
 a164:=Tryz.isAgg178
 z164:=Tryz.sizeOf178
 v164:=Tryz.zeroValue178
 g1:=by kernel_rfl
 g3:=by kernel_rfl
 g4:=by kernel_rfl }
theorem Tryz.Builder_Extra_155:Builder.Extra Tryz.prog Tryz.lays155_ren := {
 sizeBuilder:=by kernel_rfl
 liesBuilder:=by kernel_rfl
 t5:=Tryz.underlying5
 a5:=Tryz.isAgg5
 z5:=Tryz.sizeOf5
 v5:=Tryz.zeroValue5
 infoByte:=by kernel_rfl
 cellsByte:=by kernel_rfl
 sizeByte:=by kernel_rfl
 neB5:=by decide }
open Go.RowKit Go.Lib in
theorem Tryz.strings_ReplaceAll (s old new:ByteArray) (m:Int) (w:World) (hs:s.size<4294967281) (hm:w.cell? ⟨2,0,none⟩=some (.int .i64 m)) (h1:1<=old.size) (hlen:s.size+Lib.countB s old*new.size<=140737488355328) :
  Calls Tryz.prog 117 #[.string s,.string old,.string new] w fun e w'=>
   e = .returned (.string ⟨(Lib.replaceAll s.data.toList old.data.toList new.data.toList).toArray⟩)/\Below w.heap.size w w':=Any.strings_ReplaceAll Tryz.lays155 Tryz.Builder_Extra_155 s old new m w hs hm h1 hlen
def Tryz.lays260_ren:Go.Shelf.Ren:=⟨fun|260=>149|n=>n,fun|9=>9|21=>21|3=>3|4=>4|5=>5|119=>200|0=>0|46=>150|139=>203|138=>202|n=>n,fun|3=>3|4=>4|n=>n⟩
theorem Tryz.lays260:Go.Proofs.Lays.n260 Tryz.prog Tryz.lays260_ren := {
 mixed:=by kernel_rfl
 f260:=Tryz.func149.trans (congrArg some (by kernel_rfl))
 t0:=Tryz.underlying0
 a0:=Tryz.isAgg0
 z0:=Tryz.sizeOf0
 v0:=Tryz.zeroValue0
 t3:=Tryz.underlying3
 a3:=Tryz.isAgg3
 z3:=Tryz.sizeOf3
 v3:=Tryz.zeroValue3
 t4:=Tryz.underlying4
 a4:=Tryz.isAgg4
 z4:=Tryz.sizeOf4
 v4:=Tryz.zeroValue4
 t5:=Tryz.underlying5
 a5:=Tryz.isAgg5
 z5:=Tryz.sizeOf5
 v5:=Tryz.zeroValue5
 t9:=Tryz.underlying9
 a9:=Tryz.isAgg9
 z9:=Tryz.sizeOf9
 v9:=Tryz.zeroValue9
 t21:=Tryz.underlying21
 a21:=Tryz.isAgg21
 z21:=Tryz.sizeOf21
 v21:=Tryz.zeroValue21
 t46:=Tryz.underlying150
 a46:=Tryz.isAgg150
 z46:=Tryz.sizeOf150
 v46:=Tryz.zeroValue150
 t119:=Tryz.underlying200
 a119:=Tryz.isAgg200
 z119:=Tryz.sizeOf200
 t138:=Tryz.underlying202
 a138:=Tryz.isAgg202
 z138:=Tryz.sizeOf202
 v138:=Tryz.zeroValue202
 t139:=Tryz.underlying203
 a139:=Tryz.isAgg203
 z139:=Tryz.sizeOf203
 v139:=Tryz.zeroValue203
 g3:=by kernel_rfl
 g4:=by kernel_rfl }
def Tryz.lays197_ren:Go.Shelf.Ren:=⟨fun|197=>126|260=>149|n=>n,fun|9=>9|21=>21|3=>3|4=>4|5=>5|105=>159|119=>200|0=>0|46=>150|139=>203|138=>202|n=>n,fun|3=>3|4=>4|n=>n⟩
theorem Tryz.lays197:Go.Proofs.Lays.n197 Tryz.prog Tryz.lays197_ren := {
 mixed:=by kernel_rfl
 f197:=Tryz.func126.trans (congrArg some (by kernel_rfl))
 f260:=Tryz.func149.trans (congrArg some (by kernel_rfl))
 t0:=Tryz.underlying0
 a0:=Tryz.isAgg0
 z0:=Tryz.sizeOf0
 v0:=Tryz.zeroValue0
 t3:=Tryz.underlying3
 a3:=Tryz.isAgg3
 z3:=Tryz.sizeOf3
 v3:=Tryz.zeroValue3
 t4:=Tryz.underlying4
 a4:=Tryz.isAgg4
 z4:=Tryz.sizeOf4
 v4:=Tryz.zeroValue4
 t5:=Tryz.underlying5
 a5:=Tryz.isAgg5
 z5:=Tryz.sizeOf5
 v5:=Tryz.zeroValue5
 t9:=Tryz.underlying9
 a9:=Tryz.isAgg9
 z9:=Tryz.sizeOf9
 v9:=Tryz.zeroValue9
 t21:=Tryz.underlying21
 a21:=Tryz.isAgg21
 z21:=Tryz.sizeOf21
 v21:=Tryz.zeroValue21
 t46:=Tryz.underlying150
 a46:=Tryz.isAgg150
 z46:=Tryz.sizeOf150
 v46:=Tryz.zeroValue150
 t105:=Tryz.underlying159
 a105:=Tryz.isAgg159
 z105:=Tryz.sizeOf159
 v105:=Tryz.zeroValue159
 t119:=Tryz.underlying200
 a119:=Tryz.isAgg200
 z119:=Tryz.sizeOf200
 t138:=Tryz.underlying202
 a138:=Tryz.isAgg202
 z138:=Tryz.sizeOf202
 v138:=Tryz.zeroValue202
 t139:=Tryz.underlying203
 a139:=Tryz.isAgg203
 z139:=Tryz.sizeOf203
 v139:=Tryz.zeroValue203
 g3:=by kernel_rfl
 g4:=by kernel_rfl }
open Go.RowKit Go.Lib in
theorem Tryz.utf8_DecodeRuneInString (s:ByteArray) (w:World) (hT:Lib.Utf8Tabs 3 4 w) :
  Calls Tryz.prog 126 #[.string s] w fun e w'=>e = .returned (.tuple #[.int .i32 (Lib.decodeGo s).1,.int .i64 (Lib.decodeGo s).2])/\Below w.heap.size w w':=Any.utf8_DecodeRuneInString Tryz.lays197 s w hT
end Go.Proofs
namespace Go.A
open Go.Proofs
section
variable {P:Program} {σ:ASt} {w:World}
theorem reps_ints {k:IntKind}:∀ {zs:List Int} {vs:List Value},Reps σ w (zs.map (AV.int k)) vs->vs=zs.map (Value.int k)
 | [],vs,h=>by cases h;rfl
 | z::zs,vs,h=>by
   cases h with
   | cons h1 h2=>
     cases h1
     rw [reps_ints h2]
     rfl
theorem tabIs_of (hs:Sim σ w) {name:String} {b:Nat} {k:IntKind} {zs:List Int} (hg:P.globalNamed name=some b) (hb:σ b=some (.fix (zs.map (AV.int k)))):Lib.TabIs P w name k zs:=by
 obtain ⟨h1,c,T,fr,h2,h3⟩:=hs b _ hb
 obtain ⟨vs,h4,h5⟩:=h1.vals
 have h6:=reps_ints h4
 subst h6
 unfold Lib.TabIs World.var?
 rw [hg,Option.bind_some]
 simp only [h2]
 congr 1
 apply Array.ext
 ·simp [h3]
 ·intro j hj hj'
  have h7 := h5 j (Value.int k (zs[j]'(by simpa using hj'))) (by simp)
  simp only [World.cell?,h2,Nat.zero_add] at h7
  simp at h7 ⊢
  obtain ⟨_,h7⟩:=Array.getElem?_eq_some_iff.1 h7
  exact h7
theorem ACalls.of_ext {f:FuncId} {args:List AV} {r:AV} {u:Value} (h:∀ w vs,Sim σ w->Reps σ w args vs->Calls P f ⟨vs⟩ w fun e w'=>e = .returned u/\Ext w w') (hr:∀ w,Rep σ w r u):ACalls P f args σ fun v σ'=>v=r/\σ'=σ:=
 fun w vs hs ha=>(h w vs hs ha).mono fun e w' ⟨he,hx⟩=>⟨u,r,σ,he,⟨rfl,rfl⟩,ext_le hx,hs.ext hx,hr w'⟩
theorem ext_grow (w:World) (k:Nat) (os:Array Obj):Ext w (Go.Sort.grow (w.drewN k) os):=⟨⟨os,w.drawn+k⟩,rfl⟩
end
theorem Ext.of_eq {w w':World} (h:w'=w):Ext w w':=h▸Ext.refl w
def Tab (σ:ASt):Prop:=σ 5=some (.fix (Lib.pow10Tab.map (AV.int .u64)))
theorem Tab.set {σ:ASt} {b:Nat} {r:Option Role} (h:Tab σ) (hb:σ b=none):Tab (σ.set b r):=by
 unfold Tab at *
 rw [ASt.set_ne]
 ·exact h
 ·intro e;rw [<-e,h] at hb;cases hb
end Go.A
namespace Go.A
open Go.Proofs
/-! 30: tabular/deci.Parse -/
def c30_25:ACode := .seq (.ops [ oq 47 (.bin .lss (.t 46) (.t 45))]) (.seq (.cond (.t 47) .skip (.exit 0)) (.seq (.block 1 (.seq (.ops [ oq 48 (.ia 1 (.t 44) (.t 46)),oq 49 (.ld none (.t 48)),oq 11 (.mv (.t 49))]) (.seq (.seq (.ops [ oq 50 (.mv (.t 11)),oq 51 (.bin .lss (.t 50) (.v (.int .u8 48))),oq 52 (.mv (.t 51)),⟨some 53,some (52,false),.q (.mv (.t 11)),[]⟩,⟨some 54,some (52,false),.q (.bin .gtr (.t 53) (.v (.int .u8 57))),[]⟩,oq 55 (.pick (.t 52) (.v (.bool true)) (.t 54)),oq 56 (.mv (.t 55)),⟨some 57,some (56,false),.q (.mv (.t 9)),[]⟩,⟨some 58,some (56,false),.q (.bin .gtr (.t 57) (.v (.int .u64 99999999999999999))),[]⟩,oq 59 (.pick (.t 56) (.v (.bool true)) (.t 58))]) (.cond (.t 59) (.seq (.ops [ oq 2 (.mv (.v (.int .i64 0))),oq 3 (.mv (.v (.bool false)))]) .ret) .skip)) (.ops [ oq 60 (.mv (.t 9)),oq 61 (.bin .mul (.v (.int .u64 10)) (.t 60)),oq 62 (.mv (.t 11)),oq 63 (.bin .sub (.t 62) (.v (.int .u8 48))),oq 64 (.conv .u64 (.t 63)),oq 65 (.bin .add (.t 61) (.t 64)),oq 9 (.mv (.t 65))])))) (.ops [ oq 66 (.bin .add (.t 46) (.v (.int .i64 1))),oq 46 (.mv (.t 66))])))
def c30_32:ACode := .seq (.ops [ oq 9 (.mv (.v (.int .u64 0)))]) (.seq (.seq (.ops [ oq 37 (.mv (.t 6)),oq 38 (.mv (.t 7)),oq 39 (.bin .add (.t 37) (.t 38)),oq 40 (.mv (.t 7)),oq 41 (.lenS (.t 40)),oq 42 (.slfrom (true,0) (.v (.str [48,48,48,48])) (.t 41)),oq 43 (.bin .add (.t 39) (.t 42)),oe 44 (.s2b (.t 43)),oq 45 (.len (.t 44)),oq 46 (.mv (.v (.int .i64 0)))]) (.block 0 (.loop c30_25))) (.seq (.ops [ oq 67 (.mv (.t 5)),oq 68 (.mv (.t 9)),oe 69 (.call 65 [(.t 67),(.v (.int .u64 0)),(.t 68)]),oq 70 (.ext 0 (.t 69)),oq 71 (.ext 1 (.t 69)),oq 2 (.mv (.t 70)),oq 3 (.mv (.t 71))]) .ret))
def c30_36:ACode := .seq (.ops [ oq 2 (.mv (.v (.int .i64 0))),oq 3 (.mv (.v (.bool false)))]) (.seq (.ops [ oq 13 (.mv (.t 0)),oe 14 (.call 63 [(.t 13),(.v (.str [45]))]),oq 12 (.mv (.t 14)),oq 15 (.ext 0 (.t 12)),oq 16 (.ext 1 (.t 12)),oq 4 (.mv (.t 15)),oq 5 (.mv (.t 16))]) (.seq (.ops [ oq 18 (.mv (.t 4)),oe 19 (.call 64 [(.t 18),(.v (.str [46]))]),oq 17 (.mv (.t 19)),oq 20 (.ext 0 (.t 17)),oq 21 (.ext 1 (.t 17)),oq 22 (.ext 2 (.t 17)),oq 6 (.mv (.t 20)),oq 7 (.mv (.t 21)),oq 8 (.mv (.t 22))]) (.seq (.seq (.ops [ oq 23 (.mv (.t 6)),oq 24 (.bin .eql (.t 23) (.v (.str []))),oq 25 (.mv (.t 24)),⟨some 26,some (25,false),.q (.mv (.t 8)),[]⟩,⟨some 27,some (25,false),.q (.mv (.t 26)),[]⟩,⟨some 28,some (27,true),.q (.mv (.t 7)),[]⟩,⟨some 29,some (27,true),.q (.bin .eql (.t 28) (.v (.str []))),[]⟩,⟨some 30,some (27,true),.q (.mv (.t 29)),[]⟩,⟨some 31,some (30,false),.q (.mv (.t 7)),[]⟩,⟨some 32,some (30,false),.q (.lenS (.t 31)),[]⟩,⟨some 33,some (30,false),.q (.bin .gtr (.t 32) (.v (.int .i64 4))),[]⟩,⟨some 34,some (27,true),.q (.pick (.t 30) (.v (.bool true)) (.t 33)),[]⟩,⟨some 35,some (25,false),.q (.pick (.t 27) (.t 34) (.v (.bool false))),[]⟩,oq 36 (.pick (.t 25) (.v (.bool true)) (.t 35))]) (.cond (.t 36) (.seq (.ops [ oq 2 (.mv (.v (.int .i64 0))),oq 3 (.mv (.v (.bool false)))]) .ret) .skip)) c30_32)))
@[go_sem] def c30_25_wp:=wp_of c30_25.eq_1
@[go_sem] def c30_32_wp:=wp_of c30_32.eq_1
@[go_sem] def c30_36_wp:=wp_of c30_36.eq_1
def c30:AFn:=⟨72,[.t 2,.t 3],c30_36⟩
theorem c30_ok:compF Tryz.prog Tryz.f30=some c30:=by kernel_rfl
theorem a30 {args:List AV} {σ:ASt} {R:AV->ASt->Prop} (hl:args.length<=72) (h:c30_36.wp Tryz.prog (RetQ [.t 2,.t 3] R) (init args) σ):ACalls Tryz.prog 30 args σ R:=acalls_of Tryz.func30 c30_ok hl h
/-! 64: strings.Cut -/
def c64_3:ACode := .seq (.ops [ oq 4 (.mv (.v (.str []))),oq 5 (.mv (.v (.str []))),oq 6 (.mv (.v (.bool false)))]) (.seq (.ops [ oq 7 (.mv (.t 0)),oq 8 (.mv (.t 1)),oe 9 (.call 100 [(.t 7),(.t 8)]),oq 10 (.ext 0 (.t 9)),oq 11 (.ext 1 (.t 9)),oq 12 (.ext 2 (.t 9)),oq 4 (.mv (.t 10)),oq 5 (.mv (.t 11)),oq 6 (.mv (.t 12))]) .ret)
@[go_sem] def c64_3_wp:=wp_of c64_3.eq_1
def c64:AFn:=⟨13,[.t 4,.t 5,.t 6],c64_3⟩
theorem c64_ok:compF Tryz.prog Tryz.f64=some c64:=by kernel_rfl
theorem a64 {args:List AV} {σ:ASt} {R:AV->ASt->Prop} (hl:args.length<=13) (h:c64_3.wp Tryz.prog (RetQ [.t 4,.t 5,.t 6] R) (init args) σ):ACalls Tryz.prog 64 args σ R:=acalls_of Tryz.func64 c64_ok hl h
/-! 65: tabular/deci.made -/
def c65_15:ACode := .seq (.ops [ oq 6 (.mv (.v (.int .i64 0))),oq 7 (.mv (.v (.bool false)))]) (.seq (.seq (.ops [ oq 8 (.mv (.t 1)),oq 9 (.bin .gtr (.t 8) (.v (.int .u64 0))),oq 10 (.mv (.t 9)),⟨some 11,some (10,false),.q (.mv (.t 2)),[]⟩,⟨some 12,some (10,false),.q (.bin .gtr (.t 11) (.v (.int .u64 999999999999999999))),[]⟩,oq 13 (.pick (.t 10) (.v (.bool true)) (.t 12))]) (.cond (.t 13) (.seq (.ops [ oq 6 (.mv (.v (.int .i64 0))),oq 7 (.mv (.v (.bool false)))]) .ret) .skip)) (.seq (.seq (.ops [ oq 14 (.mv (.t 0))]) (.cond (.t 14) (.seq (.ops [ oq 15 (.mv (.t 2)),oq 16 (.conv .i64 (.t 15)),oq 17 (.un .neg (.t 16)),oq 6 (.mv (.t 17)),oq 7 (.mv (.v (.bool true)))]) .ret) .skip)) (.seq (.ops [ oq 18 (.mv (.t 2)),oq 19 (.conv .i64 (.t 18)),oq 6 (.mv (.t 19)),oq 7 (.mv (.v (.bool true)))]) .ret)))
@[go_sem] def c65_15_wp:=wp_of c65_15.eq_1
def c65:AFn:=⟨20,[.t 6,.t 7],c65_15⟩
theorem c65_ok:compF Tryz.prog Tryz.f65=some c65:=by kernel_rfl
theorem a65 {args:List AV} {σ:ASt} {R:AV->ASt->Prop} (hl:args.length<=20) (h:c65_15.wp Tryz.prog (RetQ [.t 6,.t 7] R) (init args) σ):ACalls Tryz.prog 65 args σ R:=acalls_of Tryz.func65 c65_ok hl h
/-! 77: (tabular/deci.Dec).Text -/
def c77_20:ACode := .seq (.ops [ oq 2 (.mv (.v (.str [])))]) (.seq (.ops [ oq 6 (.mv (.t 0)),oe 7 (.call 114 [(.t 6)]),oq 3 (.mv (.t 7))]) (.seq (.ops [ oq 8 (.mv (.t 3)),oq 9 (.bin .quo (.t 8) (.v (.int .u64 10000))),oe 10 (.call 115 [(.t 9),(.v (.int .i64 10))]),oq 4 (.mv (.t 10))]) (.seq (.seq (.ops [ oq 11 (.mv (.t 3)),oq 12 (.bin .rem (.t 11) (.v (.int .u64 10000))),oq 5 (.mv (.t 12))]) (.seq (.ops [ oq 13 (.mv (.t 5)),oq 14 (.bin .gtr (.t 13) (.v (.int .u64 0)))]) (.cond (.t 14) (.ops [ oq 15 (.mv (.t 4)),oq 16 (.mv (.t 5)),oq 17 (.bin .add (.v (.int .u64 10000)) (.t 16)),oe 18 (.call 115 [(.t 17),(.v (.int .i64 10))]),oq 19 (.slfrom (true,0) (.t 18) (.v (.int .i64 1))),oe 20 (.call 116 [(.t 19),(.v (.str [48]))]),oq 21 (.bin .add (.v (.str [46])) (.t 20)),oq 22 (.bin .add (.t 15) (.t 21)),oq 4 (.mv (.t 22))]) .skip))) (.seq (.seq (.ops [ oq 23 (.mv (.t 0)),oq 24 (.bin .lss (.t 23) (.v (.int .i64 0)))]) (.cond (.t 24) (.seq (.ops [ oq 25 (.mv (.t 4)),oq 26 (.bin .add (.v (.str [45])) (.t 25)),oq 2 (.mv (.t 26))]) .ret) .skip)) (.seq (.ops [ oq 27 (.mv (.t 4)),oq 2 (.mv (.t 27))]) .ret)))))
@[go_sem] def c77_20_wp:=wp_of c77_20.eq_1
def c77:AFn:=⟨28,[.t 2],c77_20⟩
theorem c77_ok:compF Tryz.prog Tryz.f77=some c77:=by kernel_rfl
theorem a77 {args:List AV} {σ:ASt} {R:AV->ASt->Prop} (hl:args.length<=28) (h:c77_20.wp Tryz.prog (RetQ [.t 2] R) (init args) σ):ACalls Tryz.prog 77 args σ R:=acalls_of Tryz.func77 c77_ok hl h
/-! 100: internal/stringslite.Cut -/
def c100_11:ACode := .seq (.ops [ oq 4 (.mv (.v (.str []))),oq 5 (.mv (.v (.str []))),oq 6 (.mv (.v (.bool false)))]) (.seq (.seq (.ops [ oq 8 (.mv (.t 0)),oq 9 (.mv (.t 1)),oe 10 (.call 129 [(.t 8),(.t 9)]),oq 7 (.mv (.t 10))]) (.seq (.ops [ oq 11 (.mv (.t 7)),oq 12 (.bin .geq (.t 11) (.v (.int .i64 0)))]) (.cond (.t 12) (.seq (.ops [ oq 13 (.mv (.t 0)),oq 14 (.mv (.t 7)),oq 15 (.slto (true,0) (.t 13) (.t 14)),oq 16 (.mv (.t 0)),oq 17 (.mv (.t 7)),oq 18 (.mv (.t 1)),oq 19 (.lenS (.t 18)),oq 20 (.bin .add (.t 17) (.t 19)),oq 21 (.slfrom (true,0) (.t 16) (.t 20)),oq 4 (.mv (.t 15)),oq 5 (.mv (.t 21)),oq 6 (.mv (.v (.bool true)))]) .ret) .skip))) (.seq (.ops [ oq 22 (.mv (.t 0)),oq 4 (.mv (.t 22)),oq 5 (.mv (.v (.str []))),oq 6 (.mv (.v (.bool false)))]) .ret))
@[go_sem] def c100_11_wp:=wp_of c100_11.eq_1
def c100:AFn:=⟨23,[.t 4,.t 5,.t 6],c100_11⟩
theorem c100_ok:compF Tryz.prog Tryz.f100=some c100:=by kernel_rfl
theorem a100 {args:List AV} {σ:ASt} {R:AV->ASt->Prop} (hl:args.length<=23) (h:c100_11.wp Tryz.prog (RetQ [.t 4,.t 5,.t 6] R) (init args) σ):ACalls Tryz.prog 100 args σ R:=acalls_of Tryz.func100 c100_ok hl h
/-! 114: tabular/deci.size -/
def c114_9:ACode := .seq (.ops [ oq 2 (.mv (.v (.int .u64 0)))]) (.seq (.seq (.ops [ oq 3 (.mv (.t 0)),oq 4 (.bin .lss (.t 3) (.v (.int .i64 0)))]) (.cond (.t 4) (.seq (.ops [ oq 5 (.mv (.t 0)),oq 6 (.un .neg (.t 5)),oq 7 (.conv .u64 (.t 6)),oq 2 (.mv (.t 7))]) .ret) .skip)) (.seq (.ops [ oq 8 (.mv (.t 0)),oq 9 (.conv .u64 (.t 8)),oq 2 (.mv (.t 9))]) .ret))
@[go_sem] def c114_9_wp:=wp_of c114_9.eq_1
def c114:AFn:=⟨10,[.t 2],c114_9⟩
theorem c114_ok:compF Tryz.prog Tryz.f114=some c114:=by kernel_rfl
theorem a114 {args:List AV} {σ:ASt} {R:AV->ASt->Prop} (hl:args.length<=10) (h:c114_9.wp Tryz.prog (RetQ [.t 2] R) (init args) σ):ACalls Tryz.prog 114 args σ R:=acalls_of Tryz.func114 c114_ok hl h
/-! 115: strconv.FormatUint -/
def c115_3:ACode := .seq (.ops [ oq 4 (.mv (.v (.str [])))]) (.seq (.ops [ oq 5 (.mv (.t 0)),oq 6 (.mv (.t 1)),oe 7 (.call 142 [(.t 5),(.t 6)]),oq 4 (.mv (.t 7))]) .ret)
@[go_sem] def c115_3_wp:=wp_of c115_3.eq_1
def c115:AFn:=⟨8,[.t 4],c115_3⟩
theorem c115_ok:compF Tryz.prog Tryz.f115=some c115:=by kernel_rfl
theorem a115 {args:List AV} {σ:ASt} {R:AV->ASt->Prop} (hl:args.length<=8) (h:c115_3.wp Tryz.prog (RetQ [.t 4] R) (init args) σ):ACalls Tryz.prog 115 args σ R:=acalls_of Tryz.func115 c115_ok hl h
/-! 118: (tabular/deci.Dec).Whole -/
def c118_3:ACode := .seq (.ops [ oq 2 (.mv (.v (.int .i64 0)))]) (.seq (.ops [ oq 3 (.mv (.t 0)),oq 4 (.bin .quo (.t 3) (.v (.int .i64 10000))),oq 2 (.mv (.t 4))]) .ret)
@[go_sem] def c118_3_wp:=wp_of c118_3.eq_1
def c118:AFn:=⟨5,[.t 2],c118_3⟩
theorem c118_ok:compF Tryz.prog Tryz.f118=some c118:=by kernel_rfl
theorem a118 {args:List AV} {σ:ASt} {R:AV->ASt->Prop} (hl:args.length<=5) (h:c118_3.wp Tryz.prog (RetQ [.t 2] R) (init args) σ):ACalls Tryz.prog 118 args σ R:=acalls_of Tryz.func118 c118_ok hl h
/-! 124: (tabular/deci.Dec).IsInt -/
def c124_3:ACode := .seq (.ops [ oq 2 (.mv (.v (.bool false)))]) (.seq (.ops [ oq 3 (.mv (.t 0)),oq 4 (.bin .rem (.t 3) (.v (.int .i64 10000))),oq 5 (.bin .eql (.t 4) (.v (.int .i64 0))),oq 2 (.mv (.t 5))]) .ret)
@[go_sem] def c124_3_wp:=wp_of c124_3.eq_1
def c124:AFn:=⟨6,[.t 2],c124_3⟩
theorem c124_ok:compF Tryz.prog Tryz.f124=some c124:=by kernel_rfl
theorem a124 {args:List AV} {σ:ASt} {R:AV->ASt->Prop} (hl:args.length<=6) (h:c124_3.wp Tryz.prog (RetQ [.t 2] R) (init args) σ):ACalls Tryz.prog 124 args σ R:=acalls_of Tryz.func124 c124_ok hl h
/-! 125: tabular/deci.Good -/
def c125_3:ACode := .seq (.ops [ oq 2 (.mv (.v (.bool false)))]) (.seq (.ops [ oq 3 (.mv (.t 0)),oq 4 (.bin .geq (.t 3) (.v (.int .i64 (-999999999999999999)))),oq 5 (.mv (.t 4)),⟨some 6,some (5,true),.q (.mv (.t 0)),[]⟩,⟨some 7,some (5,true),.q (.bin .leq (.t 6) (.v (.int .i64 999999999999999999))),[]⟩,oq 8 (.pick (.t 5) (.t 7) (.v (.bool false))),oq 2 (.mv (.t 8))]) .ret)
@[go_sem] def c125_3_wp:=wp_of c125_3.eq_1
def c125:AFn:=⟨9,[.t 2],c125_3⟩
theorem c125_ok:compF Tryz.prog Tryz.f125=some c125:=by kernel_rfl
theorem a125 {args:List AV} {σ:ASt} {R:AV->ASt->Prop} (hl:args.length<=9) (h:c125_3.wp Tryz.prog (RetQ [.t 2] R) (init args) σ):ACalls Tryz.prog 125 args σ R:=acalls_of Tryz.func125 c125_ok hl h
end Go.A
namespace Go.A
open Go.Proofs Go.Shelf Go.RowKit Go.Sort
set_option maxHeartbeats 4000000 in
theorem fmtU_small (u:Nat) (hu:u<100) (w:World):Calls Tryz.prog 142 #[.int .u64 u,.int .i64 10] w fun e w'=>e = .returned (.string ⟨(Lib.decDigits u).toArray⟩)/\Ext w w':=by
 have iu:(u:Int)<100:=by omega
 go_enter Tryz.func142,Tryz.ntmps142
 go_wp2_with (go_at_call 161;refine (Tryz.internal_strconv_small u hu _).mono ?_;rintro e w' ⟨rfl,rfl⟩)
 go_ret
 exact ⟨rfl,Ext.refl _⟩
set_option maxHeartbeats 12800000 in
theorem fmtU_big (u : Nat) (hu : 100 ≤ u) (hu64 : u < 18446744073709551616) (w : World) (htab : Lib.TabIs Tryz.prog w "internal/strconv.uint64pow10" .u64 Lib.pow10Tab) :
  Calls Tryz.prog 142 #[.int .u64 u,.int .i64 10] w fun e w'=>e = .returned (.string ⟨(Lib.decDigits u).toArray⟩)/\Ext w w':=by
 have hu1:1<=u:=by omega
 have hnd20:Lib.nDigits u<=20:=by have:=Lib.numDigits_eq u hu1 hu64;split at this<;>omega
 have hal:Tryz.prog.arrayLen 193=24:=by kernel_rfl
 have hsl:∀ W,(Instr.sliceAt 193 (.pointer (some ⟨w.heap.size,0,none⟩)) none (some (.int .i64 (Lib.nDigits u:Int))) none).run Tryz.prog W = .ok (.slice (some ⟨w.heap.size,0,none⟩) (Lib.nDigits u) 24) W:=fun W=>by
  rw [run_sliceAt_array_h W 193 ⟨w.heap.size,0,none⟩ (by kernel_rfl) .i64 (Lib.nDigits u:Int) (by omega) (by rw [hal];omega)]
  rw [hal]
  rfl
 have hH0:=Lib.holds_zero0 w 193 (Lib.nDigits u) (by omega)
 have hfmt:=Tryz.internal_strconv_formatBase10 w.heap.size 0 24 u (Array.replicate (Lib.nDigits u) 0) (w.alloc (.cells Lib.zeros24 193)) hH0 (by rw [Array.size_replicate];exact Lib.lt_pow_nDigits u) hu64 (by rw [Array.size_replicate];omega)
 rw [Array.size_replicate] at hfmt
 have HH0:=Lib.hid hH0
 have iu:(100:Int)<=(u:Int):=by omega
 clear hH0 hal
 go_enter Tryz.func142,Tryz.ntmps142
 go_wp2_with (first
  | (go_at_call 162;refine (Tryz.internal_strconv_numDigits u hu1 hu64 _ (Lib.tabIs_alloc htab _)).mono ?_;rintro e w' ⟨rfl,rfl⟩))
 go_at_call 163
 refine hfmt.mono ?_
 rintro e w' ⟨rfl,k,v',dk,rfl,hF⟩
 have hcv:(convert 55 9 (.slice (some ⟨w.heap.size,0,none⟩) (Lib.nDigits u) 24)).run Tryz.prog ((putRow (fun (b:UInt8)=>Value.int .u8 (b.toNat:Int)) (w.alloc (.cells Lib.zeros24 193)) w.heap.size 0 dk).drewN k) = .ok (.string ⟨(Lib.decDigits u).toArray⟩) ((putRow (fun (b:UInt8)=>Value.int .u8 (b.toNat:Int)) (w.alloc (.cells Lib.zeros24 193)) w.heap.size 0 dk).drewN k):=by
  have h:=run_convert_bytes_back (P:=Tryz.prog) ((putRow (fun (b:UInt8)=>Value.int .u8 (b.toNat:Int)) (w.alloc (.cells Lib.zeros24 193)) w.heap.size 0 dk).drewN k) 55 9 5 ⟨w.heap.size,0,none⟩ 24 (Lib.decDigits u) Tryz.underlying55 Tryz.underlying5 Tryz.underlying9 (fun j hj=>by
   rw [Lib.row_is_numeral hF j hj,Lib.add_plain,World.cell?_drewN]
   exact cell?_putRow (fun (b:UInt8)=>Value.int .u8 (b.toNat:Int)) _ w.heap.size 0 _ dk HH0.out (by rw [hF.size,Array.size_replicate]) j (by rw [hF.size];rw [Lib.decDigits_length] at hj;exact hj))
  rw [Lib.decDigits_length] at h
  exact h
 go_wp2
 go_ret
 obtain ⟨os,eo⟩:=Lib.fin_at w (.cells Lib.zeros24 193) dk k 0
 refine ⟨rfl,?_⟩
 rw [eo]
 exact ext_grow w k os
theorem ifmt_ok {σ:ASt} (h:Tab σ) {u:Nat} (hu:u<18446744073709551616):ACalls Tryz.prog 142 [.int .u64 u,.int .i64 10] σ fun v σ'=>v = .str (Lib.decDigits u)/\σ'=σ:=by
 refine ACalls.of_ext (u := .string ⟨(Lib.decDigits u).toArray⟩) (fun w vs hs ha=>?_) fun w => .str _
 cases ha with
 | cons h1 h2=>
 cases h2 with
 | cons h2 h3=>
 cases h1;cases h2;cases h3
 by_cases hs2:u<100
 ·exact fmtU_small u hs2 w
 ·exact fmtU_big u (by omega) hu w (tabIs_of hs (by kernel_rfl) h)
theorem fmt_ok {σ:ASt} (h:Tab σ) {u:Nat} (hu:u<18446744073709551616):ACalls Tryz.prog 115 [.int .u64 u,.int .i64 10] σ fun v σ'=>v = .str (Lib.decDigits u)/\σ'=σ:=by
 refine a115 (by simp) ?_
 simp (disch:=first|assumption|omega) only [go_sem,reduceCtorEq,Nat.reduceEqDiff,↓reduceIte]
 refine (ifmt_ok h hu).mono ?_
 rintro v σ' ⟨rfl,rfl⟩
 simp (disch:=first|assumption|omega) only [go_sem,↓reduceIte]
 exact retC_by (Drop.refl _) (.refl _) ⟨rfl,rfl⟩
theorem cutPrefix_ok (s p:List UInt8):Pure Tryz.prog 63 [.str s,.str p] (.tuple [.str (Lib.trimPrefix s p),.bool (Lib.hasPrefix s p)]):=by
 intro σ
 refine ACalls.of_ext (u := .tuple #[.string ⟨(Lib.trimPrefix s p).toArray⟩,.bool (Lib.hasPrefix s p)]) (fun w vs hs ha=>?_) fun w => .tuple (.cons (.str _) (.cons (.bool _) .nil))
 cases ha with
 | cons h1 h2=>
 cases h2 with
 | cons h2 h3=>
 cases h1;cases h2;cases h3
 exact (Tryz.strings_CutPrefix ⟨⟨s⟩⟩ ⟨⟨p⟩⟩ w).mono fun e w' ⟨he,hw⟩=>⟨he,Ext.of_eq hw⟩
theorem trimRight_ok (s:List UInt8) (c:UInt8) (hc:c.toNat<128) (hsl:s.length<=9223372036854775807):Pure Tryz.prog 116 [.str s,.str [c]] (.str (Lib.trimRightB s c)):=by
 intro σ
 refine ACalls.of_ext (u := .string ⟨(Lib.trimRightB s c).toArray⟩) (fun w vs hs ha=>?_) fun w => .str _
 cases ha with
 | cons h1 h2=>
 cases h2 with
 | cons h2 h3=>
 cases h1;cases h2;cases h3
 exact (Tryz.strings_TrimRight_one ⟨⟨s⟩⟩ c hc w (by simpa [ByteArray.size] using hsl)).mono fun e w' ⟨he,hw⟩=>⟨he,Ext.of_eq hw⟩
theorem sindex_ok (s:List UInt8) (c:UInt8):Pure Tryz.prog 129 [.str s,.str [c]] (.int .i64 (Lib.indexByte s c)):=by
 intro σ
 refine ACalls.of_ext (u := .int .i64 (Lib.indexByte s c)) (fun w vs hs ha=>?_) fun w => .int _ _
 cases ha with
 | cons h1 h2=>
 cases h2 with
 | cons h2 h3=>
 cases h1;cases h2;cases h3
 exact (Tryz.stringslite_Index_one ⟨⟨s⟩⟩ c w).mono fun e w' ⟨he,hw⟩=>⟨he,Ext.of_eq hw⟩
theorem cutc_ok (l:List UInt8) (c:UInt8) (hl:l.length<=1000000000):Pure Tryz.prog 64 [.str l,.str [c]] (.tuple [.str (Lib.cut l [c]).1,.str (Lib.cut l [c]).2.1,.bool (Lib.cut l [c]).2.2]):=by
 have h1:Pure Tryz.prog 100 [.str l,.str [c]] (.tuple [.str (Lib.cut l [c]).1,.str (Lib.cut l [c]).2.1,.bool (Lib.cut l [c]).2.2]):=by
  intro σ
  have hi:=sindex_ok l c
  have hr:=Lib.index_room l [c]
  unfold Lib.cut
  rw [Lib.index_one] at hr ⊢
  have hg:=Lib.indexByte_ge l c
  refine a100 (by simp) ?_
  by_cases h0:0<=Lib.indexByte l c
  ·obtain ⟨i,e⟩:∃ i:Nat,Lib.indexByte l c=i:=⟨(Lib.indexByte l c).toNat,by omega⟩
   rw [e] at hi hr ⊢
   have hr:=hr (by omega)
   simp only [List.length_cons,List.length_nil] at hr
   rw [if_pos (by omega)]
   have e1:(0:Int)<=i:=by omega
   have e2:((i:Int)+1).toNat=i+1:=by omega
   have e3:(i:Int)<=l.length:=by omega
   have e4:(i:Int)+1<=l.length:=by omega
   simp (disch:=first|assumption|omega) only [go_sem,reduceCtorEq,Nat.reduceEqDiff,↓reduceIte]
   refine hi.use ?_
   simp (disch:=first|assumption|omega) only [go_sem,reduceCtorEq,Nat.reduceEqDiff,↓reduceIte,e1,e2,List.take_length]
   exact retC_by (by repeat' (first|exact Drop.refl _|with_reducible refine Drop.off ?_ (by assumption))) (.refl _) ⟨rfl,rfl⟩
  ·have e:Lib.indexByte l c = -1:=by omega
   rw [e] at hi ⊢
   rw [if_neg (by omega)]
   simp (disch:=first|assumption|omega) only [go_sem,reduceCtorEq,Nat.reduceEqDiff,↓reduceIte]
   refine hi.use ?_
   simp (disch:=first|assumption|omega) only [go_sem,reduceCtorEq,Nat.reduceEqDiff,Int.reduceLE,↓reduceIte,Int.reduceNeg]
   exact retC_by (by repeat' (first|exact Drop.refl _|with_reducible refine Drop.off ?_ (by assumption))) (.refl _) ⟨rfl,rfl⟩
 intro σ
 refine a64 (by simp) ?_
 simp (disch:=first|assumption|omega) only [go_sem,reduceCtorEq,Nat.reduceEqDiff,↓reduceIte]
 refine h1.use ?_
 simp (disch:=first|assumption|omega) only [go_sem,Nat.reduceEqDiff,↓reduceIte]
 exact retC_by (by repeat' (first|exact Drop.refl _|with_reducible refine Drop.off ?_ (by assumption))) (.refl _) ⟨rfl,rfl⟩
end Go.A
namespace Go.A
open Go.Proofs
def resAV (o:Option Int):AV := .tuple [.int .i64 (o.getD 0),.bool o.isSome]
theorem size_ok (a:Int) (h0 : -9223372036854775808<=a) (h1:a<=9223372036854775807):Pure Tryz.prog 114 [.int .i64 a] (.int .u64 (a.natAbs:Nat)):=by
 intro σ
 refine a114 (by simp) ?_
 by_cases h:a<0
 ·have e:IntKind.u64.wrap (IntKind.i64.wrap (0-a))=((a.natAbs:Nat):Int):=by rw [IntKind.wrap_u64,IntKind.wrap_i64];omega
  simp (disch:=first|assumption|omega) only [go_sem,reduceCtorEq,↓reduceIte,h,e]
  exact retC_by (by repeat' (first|exact Drop.refl _|with_reducible refine Drop.off ?_ (by assumption))) (.refl _) ⟨rfl,rfl⟩
 ·have e:IntKind.u64.wrap a=((a.natAbs:Nat):Int):=by rw [IntKind.wrap_u64];omega
  simp (disch:=first|assumption|omega) only [go_sem,reduceCtorEq,↓reduceIte,h,e]
  exact retC_by (by repeat' (first|exact Drop.refl _|with_reducible refine Drop.off ?_ (by assumption))) (.refl _) ⟨rfl,rfl⟩
theorem made_ok (m:Bool) (lo:Nat) (h:lo<18446744073709551616):Pure Tryz.prog 65 [.bool m,.int .u64 0,.int .u64 lo] (resAV (madeP m lo)):=by
 intro σ
 refine a65 (by simp) ?_
 unfold madeP
 by_cases hm:lo<=999999999999999999
 ·have g1:¬ (999999999999999999:Int)<lo:=by omega
  have e1:IntKind.i64.wrap (lo:Int)=lo:=by rw [IntKind.wrap_i64];omega
  have e2:IntKind.i64.wrap (-(lo:Int)) = -lo:=by rw [IntKind.wrap_i64];omega
  rw [if_pos hm]
  cases m
  ·simp (disch:=first|assumption|omega) only [go_sem,reduceCtorEq,Nat.reduceEqDiff,Int.reduceLT,↓reduceIte,g1,e1]
   exact retC_by (by repeat' (first|exact Drop.refl _|with_reducible refine Drop.off ?_ (by assumption))) (.refl _) ⟨rfl,rfl⟩
  ·simp (disch:=first|assumption|omega) only [go_sem,reduceCtorEq,Nat.reduceEqDiff,Int.reduceLT,↓reduceIte,g1,e1]
   refine retC_by (by repeat' (first|exact Drop.refl _|with_reducible refine Drop.off ?_ (by assumption))) (.refl _) ⟨?_,rfl⟩
   rw [show (0:Int)-lo = -lo by omega]
   rfl
 ·have g1:(999999999999999999:Int)<lo:=by omega
  rw [if_neg hm]
  simp (disch:=first|assumption|omega) only [go_sem,Nat.reduceEqDiff,Int.reduceLT,↓reduceIte,g1]
  exact retC_by (by repeat' (first|exact Drop.refl _|with_reducible refine Drop.off ?_ (by assumption))) (.refl _) ⟨rfl,rfl⟩
theorem dgood_ok (a:Int):Pure Tryz.prog 125 [.int .i64 a] (.bool (decide (a.natAbs<=999999999999999999))):=by
 intro σ
 refine a125 (by simp) ?_
 repeat' (first|(simp (disch:=first|assumption|omega) only [go_sem,reduceCtorEq,Nat.reduceEqDiff,↓reduceIte,Int.reduceNeg])|with_reducible refine gC_d (fun h=>?_) (fun h=>?_)|with_reducible refine gC_dn (fun h=>?_) (fun h=>?_)|with_reducible refine condC_d (fun h=>?_) (fun h=>?_)|with_reducible refine condC_n (fun h=>?_) (fun h=>?_)|with_reducible refine condC_b (fun h=>?_) (fun h=>?_)|with_reducible refine boxC_by ?_ fun b hb=>?_)
 all_goals (refine retC_by (by repeat' (first|exact Drop.refl _|with_reducible refine Drop.off ?_ (by assumption))) (.refl _) ⟨?_,rfl⟩)
 ·have e:decide (a<=999999999999999999)=decide (a.natAbs<=999999999999999999):=decide_eq_decide.2 (by omega)
  rw [<-e];rfl
 ·rfl
end Go.A
namespace Go.A
open Go.Proofs
/-! 8: tabular/tabularlaw01.Cut -/
def c8_9:ACode := .seq (.ops [ oq 4 (.mv (.v (.str [])))]) (.seq (.seq (.ops [ oq 5 (.mv (.t 0)),oq 6 (.lenS (.t 5)),oq 7 (.mv (.t 1)),oq 8 (.bin .gtr (.t 6) (.t 7))]) (.cond (.t 8) (.seq (.ops [ oq 9 (.mv (.t 0)),oq 10 (.mv (.t 1)),oq 11 (.slto (true,0) (.t 9) (.t 10)),oq 4 (.mv (.t 11))]) .ret) .skip)) (.seq (.ops [ oq 12 (.mv (.t 0)),oq 4 (.mv (.t 12))]) .ret))
@[go_sem] def c8_9_wp:=wp_of c8_9.eq_1
def c8:AFn:=⟨13,[.t 4],c8_9⟩
theorem c8_ok:compF Tryz.prog Tryz.f8=some c8:=by kernel_rfl
theorem a8 {args:List AV} {σ:ASt} {R:AV->ASt->Prop} (hl:args.length<=13) (h:c8_9.wp Tryz.prog (RetQ [.t 4] R) (init args) σ):ACalls Tryz.prog 8 args σ R:=acalls_of Tryz.func8 c8_ok hl h
end Go.A
