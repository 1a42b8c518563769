/- Part 5 of what TabularStores leans on: CodeKa Ka CodeKb Kb CodeKc Kc CodeKd Kd CodeKe Ke CodeKf Kf Kj Ga CodeTg CodeKg Kg Kn CodeKp Kp Shelf Wz CodeH Hc Kh Kq. -/
import Derived.Test.YtngcggpbajgigaaGreatDoorProg
import Derived.KernelRfl
import Derived.Shelf.Small.Bits
import Derived.Shelf.Small.Wraps
import Derived.Shelf.Strconv.Itoa0
import Derived.Shelf.Strings.Search1
import Derived.Shelf.Strings.Search2
import Derived.Shelf.Strings.Cut
import Derived.Shelf.LaysM
import Derived.Shelf.Strings.Shaped
import Derived.Shelf.Strings.Prefix
import Derived.Shelf.Slices.Reverse
import Derived.Ground.Names2Prog
import Derived.Shelf.Slices.Clone
import Derived.Shelf.Slices.SearchI
import Derived.Shelf.Slices.Delete
import Derived.Shelf.Slices.Cells
import Derived.Shelf.Slices.Empties
import Derived.Ground.SlgnProg
import Derived.Shelf.SlicesE.Clone
import Derived.Ground.SlgmProg
import Derived.Shelf.SortM.Plain
import Derived.Shelf.SortM.SortNone
import Derived.Lib.ItoaMem
import Derived.Lib.AppendIntMem
import Derived.BigCall
import Derived.BigGuard
import Derived.Test.YtngcggpbajgigaaGreatDoorZTabularStoresd
set_option linter.defProp false
set_option linter.unusedSimpArgs false
set_option linter.unusedVariables false
set_option maxRecDepth 100000
namespace Go.A
abbrev oq (d:Nat) (x:QOp):AItem:=⟨some d,none,.q x,[]⟩
abbrev oe (d:Nat) (x:EOp):AItem:=⟨some d,none,.e x,[]⟩
abbrev oz (x:EOp):AItem:=⟨none,none,.e x,[]⟩
@[go_sem] theorem run_oq {P:Program} {K:AFr->ASt->Prop} {a:AFr} {σ:ASt} {d:Nat} {q:QOp} {r:List AItem}:runI P (oq d q::r) K a σ=qC P (q.ev a σ) (some d) r K a σ:=run_q
@[go_sem] theorem run_oe {P:Program} {K:AFr->ASt->Prop} {a:AFr} {σ:ASt} {d:Nat} {e:EOp} {r:List AItem}:runI P (oe d e::r) K a σ=e.step P a σ (eK P (some d) [] r K a):=run_e
@[go_sem] theorem run_oz {P:Program} {K:AFr->ASt->Prop} {a:AFr} {σ:ASt} {e:EOp} {r:List AItem}:runI P (oz e::r) K a σ=e.step P a σ (eK P none [] r K a):=run_e
open Go.Proofs
/-! 25: tabular/check.Open -/
def c25_19:ACode := .seq (.ops [ oq 2 (.mv (.v (.str []))),oq 3 (.mv (.v (.bool false)))]) (.seq (.ops [ oq 7 (.mv (.t 0)),oq 8 (.lenS (.t 7)),oq 9 (.bin .sub (.t 8) (.v (.int .i64 4))),oq 4 (.mv (.t 9))]) (.seq (.seq (.ops [ oq 10 (.mv (.t 4)),oq 11 (.bin .lss (.t 10) (.v (.int .i64 0)))]) (.cond (.t 11) (.seq (.ops [ oq 2 (.mv (.v (.str []))),oq 3 (.mv (.v (.bool false)))]) .ret) .skip)) (.seq (.seq (.ops [ oq 13 (.mv (.t 0)),oq 14 (.mv (.t 4)),oq 15 (.slfrom (true,0) (.t 13) (.t 14)),oe 16 (.call 79 [(.t 15)]),oq 12 (.mv (.t 16)),oq 17 (.ext 0 (.t 12)),oq 18 (.ext 1 (.t 12)),oq 5 (.mv (.t 17)),oq 6 (.mv (.t 18))]) (.seq (.ops [ oq 19 (.mv (.t 5)),oq 20 (.mv (.t 0)),oq 21 (.mv (.t 4)),oq 22 (.slto (true,0) (.t 20) (.t 21)),oe 23 (.call 80 [(.t 22)]),oq 24 (.bin .neq (.t 19) (.t 23))]) (.cond (.t 24) (.seq (.ops [ oq 2 (.mv (.v (.str []))),oq 3 (.mv (.v (.bool false)))]) .ret) .skip))) (.seq (.ops [ oq 25 (.mv (.t 0)),oq 26 (.mv (.t 4)),oq 27 (.slto (true,0) (.t 25) (.t 26)),oq 2 (.mv (.t 27)),oq 3 (.mv (.v (.bool true)))]) .ret))))
@[go_sem] def c25_19_wp:=wp_of c25_19.eq_1
def c25:AFn:=⟨28,[.t 2,.t 3],c25_19⟩
theorem c25_ok:compF Tryz.prog Tryz.f25=some c25:=by kernel_rfl
theorem a25 {args:List AV} {σ:ASt} {R:AV->ASt->Prop} (hl:args.length<=28) (h:c25_19.wp Tryz.prog (RetQ [.t 2,.t 3] R) (init args) σ):ACalls Tryz.prog 25 args σ R:=acalls_of Tryz.func25 c25_ok hl h
/-! 26: tabular/check.Seal -/
def c26_3:ACode := .seq (.ops [ oq 2 (.mv (.v (.str [])))]) (.seq (.ops [ oq 3 (.mv (.t 0)),oq 4 (.mv (.t 0)),oe 5 (.call 80 [(.t 4)]),oe 6 (.call 81 [(.t 5)]),oq 7 (.bin .add (.t 3) (.t 6)),oq 2 (.mv (.t 7))]) .ret)
@[go_sem] def c26_3_wp:=wp_of c26_3.eq_1
def c26:AFn:=⟨8,[.t 2],c26_3⟩
theorem c26_ok:compF Tryz.prog Tryz.f26=some c26:=by kernel_rfl
theorem a26 {args:List AV} {σ:ASt} {R:AV->ASt->Prop} (hl:args.length<=8) (h:c26_3.wp Tryz.prog (RetQ [.t 2] R) (init args) σ):ACalls Tryz.prog 26 args σ R:=acalls_of Tryz.func26 c26_ok hl h
/-! 79: tabular/check.Get -/
def c79_9:ACode := .seq (.ops [ oq 2 (.mv (.v (.int .u32 0))),oq 3 (.mv (.v (.bool false)))]) (.seq (.seq (.ops [ oq 4 (.mv (.t 0)),oq 5 (.lenS (.t 4)),oq 6 (.bin .neq (.t 5) (.v (.int .i64 4)))]) (.cond (.t 6) (.seq (.ops [ oq 2 (.mv (.v (.int .u32 0))),oq 3 (.mv (.v (.bool false)))]) .ret) .skip)) (.seq (.ops [ oq 7 (.mv (.t 0)),oq 8 (.idx (.t 7) (.v (.int .i64 0))),oq 9 (.conv .u32 (.t 8)),oq 10 (.mv (.t 0)),oq 11 (.idx (.t 10) (.v (.int .i64 1))),oq 12 (.conv .u32 (.t 11)),oq 13 (.bin .shl (.t 12) (.v (.int .u64 8))),oq 14 (.bin .or (.t 9) (.t 13)),oq 15 (.mv (.t 0)),oq 16 (.idx (.t 15) (.v (.int .i64 2))),oq 17 (.conv .u32 (.t 16)),oq 18 (.bin .shl (.t 17) (.v (.int .u64 16))),oq 19 (.bin .or (.t 14) (.t 18)),oq 20 (.mv (.t 0)),oq 21 (.idx (.t 20) (.v (.int .i64 3))),oq 22 (.conv .u32 (.t 21)),oq 23 (.bin .shl (.t 22) (.v (.int .u64 24))),oq 24 (.bin .or (.t 19) (.t 23)),oq 2 (.mv (.t 24)),oq 3 (.mv (.v (.bool true)))]) .ret))
@[go_sem] def c79_9_wp:=wp_of c79_9.eq_1
def c79:AFn:=⟨25,[.t 2,.t 3],c79_9⟩
theorem c79_ok:compF Tryz.prog Tryz.f79=some c79:=by kernel_rfl
theorem a79 {args:List AV} {σ:ASt} {R:AV->ASt->Prop} (hl:args.length<=25) (h:c79_9.wp Tryz.prog (RetQ [.t 2,.t 3] R) (init args) σ):ACalls Tryz.prog 79 args σ R:=acalls_of Tryz.func79 c79_ok hl h
/-! 80: tabular/check.Sum -/
def c80_3:ACode := .seq (.ops [ oq 2 (.mv (.v (.int .u32 0)))]) (.seq (.ops [ oq 3 (.mv (.t 0)),oe 4 (.call 141 [(.v (.int .u32 0)),(.t 3)]),oq 2 (.mv (.t 4))]) .ret)
@[go_sem] def c80_3_wp:=wp_of c80_3.eq_1
def c80:AFn:=⟨5,[.t 2],c80_3⟩
theorem c80_ok:compF Tryz.prog Tryz.f80=some c80:=by kernel_rfl
theorem a80 {args:List AV} {σ:ASt} {R:AV->ASt->Prop} (hl:args.length<=5) (h:c80_3.wp Tryz.prog (RetQ [.t 2] R) (init args) σ):ACalls Tryz.prog 80 args σ R:=acalls_of Tryz.func80 c80_ok hl h
/-! 81: tabular/check.Put -/
def c81_3:ACode := .seq (.ops [ oq 2 (.mv (.v (.str [])))]) (.seq (.ops [ oq 3 (.mv (.t 0)),oq 4 (.conv .u8 (.t 3)),oq 5 (.mv (.t 0)),oq 6 (.bin .shr (.t 5) (.v (.int .u64 8))),oq 7 (.conv .u8 (.t 6)),oq 8 (.mv (.t 0)),oq 9 (.bin .shr (.t 8) (.v (.int .u64 16))),oq 10 (.conv .u8 (.t 9)),oq 11 (.mv (.t 0)),oq 12 (.bin .shr (.t 11) (.v (.int .u64 24))),oq 13 (.conv .u8 (.t 12)),oq 14 (.bsl 1 [(.t 4),(.t 7),(.t 10),(.t 13)]),oq 15 (.b2s (.t 14)),oq 2 (.mv (.t 15))]) .ret)
@[go_sem] def c81_3_wp:=wp_of c81_3.eq_1
def c81:AFn:=⟨16,[.t 2],c81_3⟩
theorem c81_ok:compF Tryz.prog Tryz.f81=some c81:=by kernel_rfl
theorem a81 {args:List AV} {σ:ASt} {R:AV->ASt->Prop} (hl:args.length<=16) (h:c81_3.wp Tryz.prog (RetQ [.t 2] R) (init args) σ):ACalls Tryz.prog 81 args σ R:=acalls_of Tryz.func81 c81_ok hl h
/-! 141: tabular/check.Add -/
def c141_12:ACode := .seq (.ops [ oq 12 (.bin .lss (.t 11) (.t 10))]) (.seq (.cond (.t 12) .skip (.exit 0)) (.seq (.block 1 (.seq (.ops [ oq 13 (.mv (.t 11)),oq 6 (.mv (.t 13))]) (.ops [ oq 14 (.mv (.t 5)),oq 15 (.mv (.t 1)),oq 16 (.mv (.t 6)),oq 17 (.idx (.t 15) (.t 16)),oe 18 (.call 163 [(.t 14),(.t 17)]),oq 5 (.mv (.t 18))]))) (.ops [ oq 19 (.bin .add (.t 11) (.v (.int .i64 1))),oq 11 (.mv (.t 19))])))
def c141_20:ACode := .seq (.ops [ oq 4 (.mv (.v (.int .u32 0)))]) (.seq (.ops [ oq 7 (.mv (.t 0)),oq 8 (.un .xor (.t 7)),oq 5 (.mv (.t 8))]) (.seq (.seq (.ops [ oq 9 (.mv (.t 1)),oq 10 (.lenS (.t 9)),oq 11 (.mv (.v (.int .i64 0)))]) (.block 0 (.loop c141_12))) (.seq (.ops [ oq 20 (.mv (.t 5)),oq 21 (.un .xor (.t 20)),oq 4 (.mv (.t 21))]) .ret)))
@[go_sem] def c141_12_wp:=wp_of c141_12.eq_1
@[go_sem] def c141_20_wp:=wp_of c141_20.eq_1
def c141:AFn:=⟨22,[.t 4],c141_20⟩
theorem c141_ok:compF Tryz.prog Tryz.f141=some c141:=by kernel_rfl
theorem a141 {args:List AV} {σ:ASt} {R:AV->ASt->Prop} (hl:args.length<=22) (h:c141_20.wp Tryz.prog (RetQ [.t 4] R) (init args) σ):ACalls Tryz.prog 141 args σ R:=acalls_of Tryz.func141 c141_ok hl h
/-! 163: tabular/check.step -/
def c163_7:ACode := .seq (.ops [ oq 4 (.mv (.v (.int .u32 0)))]) (.seq (.ops [ oq 5 (.mv (.t 0)),oq 6 (.mv (.t 1)),oq 7 (.conv .u32 (.t 6)),oq 8 (.bin .xor (.t 5) (.t 7)),oq 0 (.mv (.t 8))]) (.seq (.ops [ oq 9 (.mv (.t 0)),oq 10 (.bin .shr (.t 9) (.v (.int .u64 4))),oq 11 (.mv (.t 0)),oq 12 (.bin .and (.t 11) (.v (.int .u32 15))),oq 13 (.iaa 16 1 (.v (.ptr 0 0)) (.t 12)),oq 14 (.ld none (.t 13)),oq 15 (.bin .xor (.t 10) (.t 14)),oq 0 (.mv (.t 15))]) (.seq (.ops [ oq 16 (.mv (.t 0)),oq 17 (.bin .shr (.t 16) (.v (.int .u64 4))),oq 18 (.mv (.t 0)),oq 19 (.bin .and (.t 18) (.v (.int .u32 15))),oq 20 (.iaa 16 1 (.v (.ptr 0 0)) (.t 19)),oq 21 (.ld none (.t 20)),oq 22 (.bin .xor (.t 17) (.t 21)),oq 4 (.mv (.t 22))]) .ret)))
@[go_sem] def c163_7_wp:=wp_of c163_7.eq_1
def c163:AFn:=⟨23,[.t 4],c163_7⟩
theorem c163_ok:compF Tryz.prog Tryz.f163=some c163:=by kernel_rfl
theorem a163 {args:List AV} {σ:ASt} {R:AV->ASt->Prop} (hl:args.length<=23) (h:c163_7.wp Tryz.prog (RetQ [.t 4] R) (init args) σ):ACalls Tryz.prog 163 args σ R:=acalls_of Tryz.func163 c163_ok hl h
end Go.A
section
attribute [local go_sem] reduceCtorEq Nat.reduceEqDiff Nat.reduceAdd Nat.reduceSub Nat.reduceMul Nat.reduceLeDiff Int.reduceLT Int.reduceLE Int.reduceEq Int.reduceNeg Int.reduceAdd Int.reduceSub Int.reduceMul true_imp_iff forall_const Nat.mul_one Int.reduceToNat Nat.reducePow Int.reducePow Bool.true_and Bool.false_and Bool.and_false
attribute [local go_sem ↓] reduceIte
namespace Go.A
open Go.Proofs
def ckT:List Nat := [0,274646895,549293790,820201905,1098587580,1361435347,1640403810,1905808397,2197175160,2460548119,2722870694,2987750089,3280807620,3553878443,3811616794,4084100981]
def nibN (c:Nat):Nat:=(c / 16) ^^^ ckT.getD (c % 16) 0
def stepN (c:Nat) (b:UInt8):Nat:=nibN (nibN (c ^^^ b.toNat))
def addN (c:Nat) (l:List UInt8):Nat:=l.foldl stepN c
def ckN (l:List UInt8):Nat:=4294967295 ^^^ addN 4294967295 l
def le32 (v:Nat):List UInt8 := [UInt8.ofNat v,UInt8.ofNat (v / 256),UInt8.ofNat (v / 65536),UInt8.ofNat (v / 16777216)]
def of32 (l:List UInt8):Nat:=(l.getD 0 0).toNat+(l.getD 1 0).toNat*256+(l.getD 2 0).toNat*65536+(l.getD 3 0).toNat*16777216
theorem ckT_lt:∀ i<16,ckT.getD i 0<4294967296:=by decide
theorem xor_lt {x y:Nat} (hx:x<4294967296) (hy:y<4294967296):x ^^^ y<4294967296:=Nat.xor_lt_two_pow (n:=32) hx hy
theorem nibN_lt {c:Nat} (h:c<4294967296):nibN c<4294967296:=xor_lt (by omega) (ckT_lt _ (by omega))
theorem u8_lt' (b:UInt8):b.toNat<256:=b.toNat_lt
theorem stepN_lt {c:Nat} (h:c<4294967296) (b:UInt8):stepN c b<4294967296:=nibN_lt (nibN_lt (xor_lt h (by have:=u8_lt' b;omega)))
theorem addN_lt (l:List UInt8):∀ {c:Nat},c<4294967296->addN c l<4294967296:=by
 induction l with
 | nil=>intro c h;exact h
 | cons b l ih=>intro c h;exact ih (stepN_lt h b)
theorem ckN_lt (l:List UInt8):ckN l<4294967296:=xor_lt (by decide) (addN_lt l (by decide))
theorem addN_snoc (c:Nat) (l:List UInt8) (b:UInt8):addN c (l ++ [b])=stepN (addN c l) b:=by unfold addN;rw [List.foldl_append];rfl
theorem of_le32 {v:Nat} (h:v<4294967296):of32 (le32 v)=v:=by
 unfold of32 le32
 simp only [List.getD_cons_zero,List.getD_cons_succ,UInt8.toNat_ofNat']
 omega
theorem le32_len (v:Nat):(le32 v).length=4:=rfl
theorem of32_lt {l:List UInt8}:of32 l<4294967296:=by
 unfold of32
 have h0:=u8_lt' (l.getD 0 0)
 have h1:=u8_lt' (l.getD 1 0)
 have h2:=u8_lt' (l.getD 2 0)
 have h3:=u8_lt' (l.getD 3 0)
 omega
def xor32 (x y:Int):Int:=((BitVec.ofInt 32 x ^^^ BitVec.ofInt 32 y).toNat:Int)
def and32 (x y:Int):Int:=((BitVec.ofInt 32 x &&& BitVec.ofInt 32 y).toNat:Int)
def or32 (x y:Int):Int:=((BitVec.ofInt 32 x ||| BitVec.ofInt 32 y).toNat:Int)
theorem wrap_bv (v:BitVec 32):IntKind.wrap .u32 (v.toNat:Int)=v.toNat:=wrap_u32 (by omega) (by have:=v.isLt;omega)
@[go_sem high] theorem binI_xor32 {x y:Int}:binI .xor .u32 x y=some (.int .u32 (xor32 x y)):=by rw [binI_xor];exact congrArg (fun n=>some (AV.int .u32 n)) (wrap_bv _)
@[go_sem high] theorem binI_and32 {x y:Int}:binI .and .u32 x y=some (.int .u32 (and32 x y)):=by rw [binI_and];exact congrArg (fun n=>some (AV.int .u32 n)) (wrap_bv _)
@[go_sem high] theorem binI_or32 {x y:Int}:binI .or .u32 x y=some (.int .u32 (or32 x y)):=by rw [binI_or];exact congrArg (fun n=>some (AV.int .u32 n)) (wrap_bv _)
theorem bxor {x y:Nat} (hx:x<4294967296) (hy:y<4294967296):xor32 x y=(x ^^^ y:Nat):=by
 unfold xor32
 congr 1
 rw [BitVec.toNat_xor,BitVec.ofInt_natCast,BitVec.ofInt_natCast,BitVec.toNat_ofNat,BitVec.toNat_ofNat,Nat.mod_eq_of_lt hx,Nat.mod_eq_of_lt hy]
theorem band15 {x:Nat} (hx:x<4294967296):and32 x 15=(x % 16:Nat):=by
 unfold and32
 congr 1
 rw [BitVec.toNat_and,BitVec.ofInt_natCast,BitVec.toNat_ofNat,Nat.mod_eq_of_lt hx]
 exact Nat.and_two_pow_sub_one_eq_mod x 4
theorem bor {x y:Nat} (hx:x<4294967296) (hy:y<4294967296):or32 x y=(x ||| y:Nat):=by
 unfold or32
 congr 1
 rw [BitVec.toNat_or,BitVec.ofInt_natCast,BitVec.ofInt_natCast,BitVec.toNat_ofNat,BitVec.toNat_ofNat,Nat.mod_eq_of_lt hx,Nat.mod_eq_of_lt hy]
theorem or_add {x y k:Nat} (hx:x<2 ^ k):x ||| (y*2 ^ k)=x+y*2 ^ k:=by
 rw [Nat.or_comm,Nat.mul_comm,← Nat.two_pow_add_eq_or_of_lt hx,Nat.add_comm]
def ckAV:List AV:=ckT.map fun (n:Nat)=>AV.int .u32 (n:Int)
def CkT (σ:ASt):Prop:=σ 0=some (.fix ckAV)
theorem CkT.set {σ:ASt} {b:Nat} {r:Option Role} (h:CkT σ) (hb:σ b=none):CkT (σ.set b r):=by
 unfold CkT at *
 rw [ASt.set_ne]
 ·exact h
 ·rintro rfl;rw [h] at hb;cases hb
theorem ck_get {i:Nat} (h:i<16):ckAV[i]? = some (.int .u32 (ckT.getD i 0:Nat)):=by
 have hl:i<ckT.length:=h
 unfold ckAV
 rw [List.getElem?_map,List.getD_eq_getElem?_getD,List.getElem?_eq_getElem hl]
 rfl
theorem ckstep_ok {σ:ASt} (hσ:CkT σ) {c:Nat} (hc:c<4294967296) (b:UInt8):ACalls Tryz.prog 163 [.int .u32 c,.int .u8 b.toNat] σ fun v σ'=>v = .int .u32 (stepN c b:Nat)/\σ'=σ:=by
 unfold CkT at hσ
 have hb:=u8_lt' b
 have x1:=bxor hc (y:=b.toNat) (by omega)
 have l1:c ^^^ b.toNat<4294967296:=xor_lt hc (by omega)
 have hs:stepN c b=nibN (nibN (c ^^^ b.toNat)):=rfl
 rw [hs]
 generalize c ^^^ b.toNat=d at *
 have a1:=band15 l1
 have g1:=ck_get (i:=d % 16) (by omega)
 have t1:=ckT_lt (d % 16) (by omega)
 have y1:xor32 ((d / 16:Nat):Int) ((ckT.getD (d % 16) 0:Nat):Int)=(nibN d:Nat):=bxor (by omega) t1
 have l2:=nibN_lt l1
 have i1:d % 16<16:=by omega
 have q1:(d:Int) / 16=((d / 16:Nat):Int):=by omega
 generalize nibN d=f at *
 generalize d % 16=i at *
 generalize ckT.getD i 0=u at *
 generalize d / 16=v at *
 have a2:=band15 l2
 have g2:=ck_get (i:=f % 16) (by omega)
 have t2:=ckT_lt (f % 16) (by omega)
 have y2:xor32 ((f / 16:Nat):Int) ((ckT.getD (f % 16) 0:Nat):Int)=(nibN f:Nat):=bxor (by omega) t2
 have l3:=nibN_lt l2
 have i2:f % 16<16:=by omega
 have q2:(f:Int) / 16=((f / 16:Nat):Int):=by omega
 generalize nibN f=g at *
 generalize f % 16=j at *
 generalize ckT.getD j 0=u2 at *
 generalize f / 16=v2 at *
 refine a163 (by simp) ?_
 simp (disch:=first|assumption|omega|(simp only [List.length_append,List.length_cons,List.length_nil];omega)) only [go_sem,hσ,x1,a1,q1,g1,y1,a2,q2,g2,y2,Int.toNat_natCast,Nat.zero_add]
 exact retC_by (.refl _) (.refl _) ⟨rfl,rfl⟩
theorem ckadd_ok {σ:ASt} (hσ:CkT σ) {c:Nat} (hc:c<4294967296) (s:List UInt8) (hs:s.length<=1000000000):ACalls Tryz.prog 141 [.int .u32 c,.str s] σ fun v σ'=>v = .int .u32 ((4294967295 ^^^ addN (4294967295 ^^^ c) s:Nat))/\σ'=σ:=by
 have hm:(if IntKind.signed .u32=true then -1 else IntKind.max .u32)=4294967295:=rfl
 have x1:xor32 4294967295 c=(4294967295 ^^^ c:Nat):=bxor (x:=4294967295) (by decide) hc
 have l1:4294967295 ^^^ c<4294967296:=xor_lt (by decide) hc
 have hx:∀ i:Nat,i<=s.length->4294967295 ^^^ addN (4294967295 ^^^ c) (s.take i)<4294967296:=fun i _=>xor_lt (by decide) (addN_lt _ l1)
 have ha:∀ i:Nat,addN (4294967295 ^^^ c) (s.take i)<4294967296:=fun i=>addN_lt _ l1
 refine a141 (by simp) ?_
 simp (disch:=first|assumption|omega|(simp only [List.length_append,List.length_cons,List.length_nil];omega)) only [go_sem,hm,x1]
 refine wp_loop_on (fun (i:Nat) a1 s2=>i<=s.length/\(a1 1 = .str s/\a1 5 = .int .u32 ((addN (4294967295 ^^^ c) (s.take i):Nat))/\a1 10 = .int .i64 s.length/\a1 11 = .int .i64 i)/\s2=σ) (fun i=>s.length-i) 0 ⟨Nat.zero_le _,?_,rfl⟩ ?_
 ·rw [List.take_zero]
  have e0:addN (4294967295 ^^^ c) []=4294967295 ^^^ c:=rfl
  rw [e0]
  simp (disch:=first|assumption|omega|(simp only [List.length_append,List.length_cons,List.length_nil];omega)) only [go_sem]
 rintro i a1 s2 ⟨hi,hf,rfl⟩
 by_cases hlt:i<s.length
 ·have hlt':(i:Int)<s.length:=by omega
  have hxx : s[i]? = some (s[i]'hlt) := List.getElem?_eq_getElem hlt
  have hst := ckstep_ok hσ (ha i) (s[i]'hlt)
  have hsn : stepN (addN (4294967295 ^^^ c) (s.take i)) (s[i]'hlt) = addN (4294967295 ^^^ c) (s.take (i + 1)) := by rw [List.take_succ_eq_append_getElem hlt, addN_snoc]
  rw [hsn] at hst
  generalize s[i]'hlt = y at *
  simp (disch:=first|assumption|omega|(simp only [List.length_append,List.length_cons,List.length_nil];omega)) only [go_sem,hf,hlt',hxx]
  refine hst.mono ?_
  rintro v σ' ⟨rfl,rfl⟩
  simp (disch:=first|assumption|omega|(simp only [List.length_append,List.length_cons,List.length_nil];omega)) only [go_sem,hf]
  refine ⟨i+1,by omega,by omega,?_,rfl⟩
  simp (disch:=first|assumption|omega|(simp only [List.length_append,List.length_cons,List.length_nil];omega)) only [go_sem,hf]
 ·have hlt':¬ (i:Int)<s.length:=by omega
  obtain rfl:i=s.length:=by omega
  have ha:=ha s.length
  rw [List.take_of_length_le (Nat.le_refl _)] at hf ha
  have l2:4294967295 ^^^ addN (4294967295 ^^^ c) s<4294967296:=xor_lt (by decide) ha
  generalize addN (4294967295 ^^^ c) s=z at *
  have x2:xor32 4294967295 z=(4294967295 ^^^ z:Nat):=bxor (x:=4294967295) (by decide) ha
  simp (disch:=first|assumption|omega|(simp only [List.length_append,List.length_cons,List.length_nil];omega)) only [go_sem,hf,hlt',hm,x2]
  exact retC_by (.refl _) (.refl _) ⟨rfl,rfl⟩
theorem cksum_ok {σ:ASt} (hσ:CkT σ) (s:List UInt8) (hs:s.length<=1000000000):ACalls Tryz.prog 80 [.str s] σ fun v σ'=>v = .int .u32 (ckN s:Nat)/\σ'=σ:=by
 have h:=ckadd_ok hσ (c:=0) (by decide) s hs
 have e:4294967295 ^^^ addN (4294967295 ^^^ 0) s=ckN s:=rfl
 rw [e] at h
 generalize ckN s=z at *
 refine a80 (by simp) ?_
 simp (disch:=first|assumption|omega|(simp only [List.length_append,List.length_cons,List.length_nil];omega)) only [go_sem]
 refine h.mono ?_
 rintro v σ' ⟨rfl,rfl⟩
 simp (disch:=first|assumption|omega|(simp only [List.length_append,List.length_cons,List.length_nil];omega)) only [go_sem]
 exact retC_by (.refl _) (.refl _) ⟨rfl,rfl⟩
theorem ckput_ok {v:Nat} (hv:v<4294967296):Pure Tryz.prog 81 [.int .u32 v] (.str (le32 v)):=by
 intro σ
 have e:∀ n:Nat,IntKind.wrap .u8 (n:Int)=((UInt8.ofNat n).toNat:Int):=fun n=>by rw [IntKind.wrap_u8,UInt8.toNat_ofNat'];omega
 have q1:(v:Int) / 256=((v / 256:Nat):Int):=by omega
 have q2:(v:Int) / 65536=((v / 65536:Nat):Int):=by omega
 have q3:(v:Int) / 16777216=((v / 16777216:Nat):Int):=by omega
 have hb : [AV.int .u8 ((UInt8.ofNat v).toNat:Int),.int .u8 ((UInt8.ofNat (v / 256)).toNat:Int),.int .u8 ((UInt8.ofNat (v / 65536)).toNat:Int),.int .u8 ((UInt8.ofNat (v / 16777216)).toNat:Int)]=bytesAV (le32 v):=rfl
 refine a81 (by simp) ?_
 have hwl:wellSz 1 (bytesAV (le32 v))=true:=rfl
 simp (disch:=first|assumption|omega|(simp only [List.length_append,List.length_cons,List.length_nil];omega)) only [go_sem,e,q1,q2,q3,hb,hwl]
 exact retC_by (.refl _) (.refl _) ⟨rfl,rfl⟩
theorem ckget_ok {s:List UInt8} (hs:s.length=4):Pure Tryz.prog 79 [.str s] (.tuple [.int .u32 (of32 s:Nat),.bool true]):=by
 intro σ
 match s,hs with
 | [a,b,c,d],_=>
   have ha:=u8_lt' a
   have hb:=u8_lt' b
   have hc:=u8_lt' c
   have hd:=u8_lt' d
   have ho:of32 [a,b,c,d]=a.toNat+b.toNat*256+c.toNat*65536+d.toNat*16777216:=rfl
   rw [ho]
   generalize hna:a.toNat=na at *
   generalize hnb:b.toNat=nb at *
   generalize hnc:c.toNat=nc at *
   generalize hnd:d.toNat=nd at *
   obtain ⟨B,hB⟩:∃ B,B=nb*256:=⟨_,rfl⟩
   obtain ⟨C,hC⟩:∃ C,C=nc*65536:=⟨_,rfl⟩
   obtain ⟨D,hD⟩:∃ D,D=nd*16777216:=⟨_,rfl⟩
   rw [<-hB,← hC,← hD]
   have h1:na ||| B=na+B:=by rw [hB];exact or_add (k:=8) (by omega)
   have h2:(na+B) ||| C=na+B+C:=by rw [hC];exact or_add (k:=16) (by omega)
   have h3:(na+B+C) ||| D=na+B+C+D:=by rw [hD];exact or_add (k:=24) (by omega)
   have m1:(nb:Int)*256=(B:Int):=by omega
   have m2:(nc:Int)*65536=(C:Int):=by omega
   have m3:(nd:Int)*16777216=(D:Int):=by omega
   have o1:or32 na B=((na+B:Nat):Int):=by rw [bor (by omega) (by omega),h1]
   have o2:or32 (na+B:Nat) C=((na+B+C:Nat):Int):=by rw [bor (by omega) (by omega),h2]
   have o3:or32 (na+B+C:Nat) D=((na+B+C+D:Nat):Int):=by rw [bor (by omega) (by omega),h3]
   have l3:na+B+C+D<4294967296:=by omega
   have l2:na+B+C<4294967296:=by omega
   have l1:na+B<4294967296:=by omega
   have bl:B<4294967296/\C<4294967296/\D<4294967296:=by omega
   clear hB hC hD h1 h2 h3
   generalize hX:na+B=X at *
   generalize hY:X+C=Y at *
   generalize hZ:Y+D=Z at *
   obtain ⟨b1,b2,b3⟩:=bl
   refine a79 (by simp) ?_
   simp (disch:=first|assumption|omega|(simp only [List.length_append,List.length_cons,List.length_nil];omega)) only [go_sem,hna,hnb,hnc,hnd,m1,o1,m2,o2,m3,o3]
   exact retC_by (.refl _) (.refl _) ⟨rfl,rfl⟩
theorem ckseal_ok {σ:ASt} (hσ:CkT σ) (s:List UInt8) (hs:s.length<=1000000000):ACalls Tryz.prog 26 [.str s] σ fun v σ'=>v = .str (s++le32 (ckN s))/\σ'=σ:=by
 have h1:=cksum_ok hσ s hs
 have h2:=ckput_ok (ckN_lt s)
 have hl:(le32 (ckN s)).length=4:=rfl
 generalize ckN s=z at *
 have hb:binS .add s (le32 z)=some (.str (s++le32 z)):=binS_add (by omega)
 refine a26 (by simp) ?_
 simp (disch:=first|assumption|omega|(simp only [List.length_append,List.length_cons,List.length_nil];omega)) only [go_sem]
 refine h1.mono ?_
 rintro v σ' ⟨rfl,rfl⟩
 simp (disch:=first|assumption|omega|(simp only [List.length_append,List.length_cons,List.length_nil];omega)) only [go_sem]
 refine h2.use ?_
 simp (disch:=first|assumption|omega|(simp only [List.length_append,List.length_cons,List.length_nil];omega)) only [go_sem,hb]
 exact retC_by (.refl _) (.refl _) ⟨rfl,rfl⟩
def openP (s:List UInt8):List UInt8×Bool:=if s.length<4 then ([],false) else if of32 (s.drop (s.length-4))=ckN (s.take (s.length-4)) then (s.take (s.length-4),true) else ([],false)
theorem openP_seal (s:List UInt8):openP (s++le32 (ckN s))=(s,true):=by
 unfold openP
 have hl:(s++le32 (ckN s)).length=s.length+4:=by rw [List.length_append];rfl
 have e:s.length+4-4=s.length:=by omega
 rw [hl,if_neg (by omega),e,List.drop_left,List.take_left,of_le32 (ckN_lt s),if_pos rfl]
theorem ckopen_ok {σ:ASt} (hσ:CkT σ) (s:List UInt8) (hs:s.length<=1000000000):ACalls Tryz.prog 25 [.str s] σ fun v σ'=>v = .tuple [.str (openP s).1,.bool (openP s).2]/\σ'=σ:=by
 obtain ⟨q,hq⟩:∃ q,openP s=q:=⟨_,rfl⟩
 rw [hq]
 unfold openP at hq
 by_cases h:s.length<4
 ·rw [if_pos h] at hq
  subst hq
  have h':(s.length:Int)-4<0:=by omega
  refine a25 (by simp) ?_
  simp (disch:=first|assumption|omega|(simp only [List.length_append,List.length_cons,List.length_nil];omega)) only [go_sem,h']
  exact retC_by (.refl _) (.refl _) ⟨rfl,rfl⟩
 ·rw [if_neg h] at hq
  obtain ⟨n,hn⟩:∃ n:Nat,s.length-4=n:=⟨_,rfl⟩
  have hsn:(s.length:Int)-4=n:=by omega
  rw [hn] at hq
  have hd:(s.drop n).length=4:=by rw [List.length_drop];omega
  have h1:=ckget_ok hd
  have h2:=cksum_ok hσ (s.take n) (by rw [List.length_take];omega)
  have hnl:(n:Int)<=s.length:=by omega
  have htk:s.take s.length=s:=List.take_of_length_le (Nat.le_refl _)
  have hl1:of32 (s.drop n)<4294967296:=of32_lt
  have hl2:=ckN_lt (s.take n)
  have hnn:¬ (n:Int)<0:=by omega
  by_cases g:of32 (s.drop n)=ckN (s.take n)
  ·rw [if_pos g] at hq
   subst hq
   rw [<-g] at h2
   generalize of32 (s.drop n)=z at *
   refine a25 (by simp) ?_
   simp (disch:=first|assumption|omega|(simp only [List.length_append,List.length_cons,List.length_nil];omega)) only [go_sem,hsn,hnn,Int.toNat_natCast,htk]
   refine h1.use ?_
   simp (disch:=first|assumption|omega|(simp only [List.length_append,List.length_cons,List.length_nil];omega)) only [go_sem,Int.toNat_natCast,List.drop_zero]
   refine h2.mono ?_
   rintro v σ' ⟨rfl,rfl⟩
   simp (disch:=first|assumption|omega|(simp only [List.length_append,List.length_cons,List.length_nil];omega)) only [go_sem,Int.toNat_natCast,List.drop_zero]
   exact retC_by (.refl _) (.refl _) ⟨rfl,rfl⟩
  ·rw [if_neg g] at hq
   subst hq
   have g':¬ ((of32 (s.drop n):Nat):Int)=((ckN (s.take n):Nat):Int):=by omega
   generalize of32 (s.drop n)=z at *
   generalize ckN (s.take n)=y at *
   refine a25 (by simp) ?_
   simp (disch:=first|assumption|omega|(simp only [List.length_append,List.length_cons,List.length_nil];omega)) only [go_sem,hsn,hnn,Int.toNat_natCast,htk]
   refine h1.use ?_
   simp (disch:=first|assumption|omega|(simp only [List.length_append,List.length_cons,List.length_nil];omega)) only [go_sem,Int.toNat_natCast,List.drop_zero]
   refine h2.mono ?_
   rintro v σ' ⟨rfl,rfl⟩
   simp (disch:=first|assumption|omega|(simp only [List.length_append,List.length_cons,List.length_nil];omega)) only [go_sem,g',Int.toNat_natCast,List.drop_zero]
   exact retC_by (.refl _) (.refl _) ⟨rfl,rfl⟩
end Go.A
namespace Go.A
open Go.Proofs
/-! 36: tabular/vint.PutU32 -/
def c36_10:ACode := .seq (.ops [ oq 6 (.bin .lss (.t 5) (.v (.int .i64 4)))]) (.seq (.cond (.t 6) .skip (.exit 0)) (.seq (.block 1 (.seq (.ops [ oq 7 (.mv (.t 5)),oq 4 (.mv (.t 7))]) (.ops [ oq 8 (.mv (.t 0)),oq 9 (.mv (.t 4)),oq 10 (.mv (.t 1)),oq 11 (.mv (.t 4)),oq 12 (.bin .mul (.v (.int .i64 8)) (.t 11)),oq 13 (.bin .shr (.t 10) (.t 12)),oq 14 (.conv .u8 (.t 13)),oq 15 (.ia 1 (.t 8) (.t 9)),oz (.store 1 (.t 15) (.t 14))]))) (.ops [ oq 16 (.bin .add (.t 5) (.v (.int .i64 1))),oq 5 (.mv (.t 16))])))
def c36_13:ACode := .seq (.ops [ oq 5 (.mv (.v (.int .i64 0)))]) (.block 0 (.loop c36_10))
@[go_sem] def c36_10_wp:=wp_of c36_10.eq_1
@[go_sem] def c36_13_wp:=wp_of c36_13.eq_1
def c36:AFn:=⟨17,[],c36_13⟩
theorem c36_ok:compF Tryz.prog Tryz.f36=some c36:=by kernel_rfl
theorem a36 {args:List AV} {σ:ASt} {R:AV->ASt->Prop} (hl:args.length<=17) (h:c36_13.wp Tryz.prog (RetQ [] R) (init args) σ):ACalls Tryz.prog 36 args σ R:=acalls_of Tryz.func36 c36_ok hl h
/-! 85: tabular/disk.word -/
def c85_7:ACode := .seq (.ops [ oq 2 (.mv (.v (.str [])))]) (.seq (.ops [ oe 3 (.alloc [(.int .u8 0),(.int .u8 0),(.int .u8 0),(.int .u8 0)])]) (.seq (.ops [ oq 4 (.sla 4 (.t 3)),oq 5 (.mv (.t 0)),oe 6 (.call 36 [(.t 4),(.t 5)])]) (.seq (.ops [ oq 7 (.sla 4 (.t 3)),oq 8 (.b2s (.t 7)),oq 2 (.mv (.t 8))]) .ret)))
@[go_sem] def c85_7_wp:=wp_of c85_7.eq_1
def c85:AFn:=⟨9,[.t 2],c85_7⟩
theorem c85_ok:compF Tryz.prog Tryz.f85=some c85:=by kernel_rfl
theorem a85 {args:List AV} {σ:ASt} {R:AV->ASt->Prop} (hl:args.length<=9) (h:c85_7.wp Tryz.prog (RetQ [.t 2] R) (init args) σ):ACalls Tryz.prog 85 args σ R:=acalls_of Tryz.func85 c85_ok hl h
end Go.A
namespace Go.A
open Go.Proofs
def spl {α:Type} (cs:List α) (o:Nat) (ys:List α):List α:=cs.take o++ys++cs.drop (o+ys.length)
theorem splice_spl (cs ys:List AV) (o:Nat):splice cs o ys.length ys=spl cs o ys:=rfl
theorem spl_len {α:Type} {cs ys:List α} {o:Nat} (h:o+ys.length<=cs.length):(spl cs o ys).length=cs.length:=by
 unfold spl
 rw [List.length_append,List.length_append,List.length_take,List.length_drop]
 omega
theorem spl_nil {α:Type} (cs:List α) (o:Nat):spl cs o []=cs:=by
 unfold spl
 rw [List.append_nil,List.length_nil,Nat.add_zero,List.take_append_drop]
theorem spl_step {α:Type} {cs ys:List α} {o i:Nat} {y:α} (h:o+ys.length<=cs.length) (hy:ys[i]? = some y):(spl cs o (ys.take i)).take (o+i) ++ [y]++(spl cs o (ys.take i)).drop (o+i+1)=spl cs o (ys.take (i+1)):=by
 obtain ⟨hi,rfl⟩:=List.getElem?_eq_some_iff.1 hy
 have e1:(cs.take o).length=o:=by rw [List.length_take];omega
 have e2:(ys.take i).length=i:=by rw [List.length_take];omega
 have e3:(ys.take (i+1)).length=i+1:=by rw [List.length_take];omega
 have e4:(cs.take o++ys.take i).length=o+i:=by rw [List.length_append,e1,e2]
 unfold spl
 rw [e2,e3]
 have a1:(cs.take o++ys.take i++cs.drop (o+i)).take (o+i)=cs.take o++ys.take i:=by rw [<-e4,List.take_left]
 have a2:(cs.take o++ys.take i++cs.drop (o+i)).drop (o+i+1)=cs.drop (o+(i+1)):=by rw [<-List.drop_drop,← e4,List.drop_left,e4,List.drop_drop];rfl
 rw [a1,a2,List.take_succ_eq_append_getElem hi,← List.append_assoc]
theorem w_ofNat (n:Nat):IntKind.wrap .u8 (n:Int)=((UInt8.ofNat n).toNat:Int):=by rw [IntKind.wrap_u8,UInt8.toNat_ofNat'];omega
theorem le32_get {v i:Nat} (h:i<4):(bytesAV (le32 v))[i]? = some (.int .u8 ((UInt8.ofNat (v / 2 ^ (8*i))).toNat:Int)):=by
 have:i=0\/i=1\/i=2\/i=3:=by omega
 rcases this with rfl|rfl|rfl|rfl
 ·show some _=some _
  rw [show v / 2 ^ (8*0)=v from by simp]
 all_goals rfl
theorem putU32_ok {σ:ASt} {B o n c:Nat} {cs:List AV} (hB:σ B=some (.obj cs)) (ho:o+4<=cs.length) (hn:4<=n) {v:Nat} (hv:v<4294967296) :
  ACalls Tryz.prog 36 [.msl B o n c,.int .u32 v] σ fun r σ'=>r = .tuple []/\σ'=σ.set B (some (.obj (spl cs o (bytesAV (le32 v))))):=by
 have bits:IntKind.bits .u32=32:=rfl
 have hl:(bytesAV (le32 v)).length=4:=rfl
 have hst:=fun i y=>spl_step (cs:=cs) (ys:=bytesAV (le32 v)) (o:=o) (i:=i) (y:=y) (by rw [hl];exact ho)
 have hlen:∀ i,(spl cs o ((bytesAV (le32 v)).take i)).length=cs.length:=fun i=>spl_len (by rw [List.length_take,hl];omega)
 refine a36 (by simp) ?_
 simp (disch:=first|assumption|omega|(simp only [List.length_append,List.length_cons,List.length_nil];omega)) only [go_sem]
 refine wp_loop_on (fun (i:Nat) a1 s2=>i<=4/\(a1 0 = .msl B o n c/\a1 1 = .int .u32 v/\a1 5 = .int .i64 i)/\s2=σ.set B (some (.obj (spl cs o ((bytesAV (le32 v)).take i))))) (fun i=>4-i) 0 ⟨by omega,?_,?_⟩ ?_
 ·simp (disch:=first|assumption|omega|(simp only [List.length_append,List.length_cons,List.length_nil];omega)) only [go_sem]
 ·rw [List.take_zero,spl_nil]
  funext x
  by_cases hx:x=B
  ·rw [hx,ASt.set_same,hB]
  ·rw [ASt.set_ne hx]
 rintro i a1 s2 ⟨hi,hf,rfl⟩
 by_cases hlt:i<4
 ·have hlt':(i:Int)<4:=by omega
  have g:=le32_get (v:=v) hlt
  have e8:(8*(i:Int)).toNat=8*i:=by omega
  have m8:8*i<=32:=by omega
  have p8:0<=8*(i:Int):=by omega
  have q:(v:Int) / 2 ^ (8*i)=((v / 2 ^ (8*i):Nat):Int):=by
   have:i=0\/i=1\/i=2\/i=3:=by omega
   rcases this with rfl|rfl|rfl|rfl<;>simp
  have hs:=hst i _ g
  have hw:=w_ofNat (v / 2 ^ (8*i))
  have hll:=hlen i
  have hle:o+i+1<=(spl cs o ((bytesAV (le32 v)).take i)).length:=by omega
  generalize spl cs o ((bytesAV (le32 v)).take i)=M1 at *
  have hin:(i:Int)<(n:Int):=by omega
  have ei:o+i*1=o+i:=by omega
  simp (disch:=first|assumption|omega|(simp only [List.length_append,List.length_cons,List.length_nil];omega)) only [go_sem,hf,hlt',bits,e8,q,hw,Int.toNat_natCast,hle,hs,ASt.set_set]
  refine ⟨i+1,by omega,by omega,?_,rfl⟩
  simp (disch:=first|assumption|omega|(simp only [List.length_append,List.length_cons,List.length_nil];omega)) only [go_sem,hf]
 ·have hlt':¬ (i:Int)<4:=by omega
  obtain rfl:i=4:=by omega
  rw [List.take_of_length_le (by omega)]
  simp (disch:=first|assumption|omega|(simp only [List.length_append,List.length_cons,List.length_nil];omega)) only [go_sem,hf,hlt']
  exact retC_by (.refl _) (.refl _) ⟨rfl,rfl⟩
theorem dkword_ok {v:Nat} (hv:v<4294967296):Pure Tryz.prog 85 [.int .u32 v] (.str (le32 v)):=by
 intro σ
 refine a85 (by simp) ?_
 simp (disch:=first|assumption|omega|(simp only [List.length_append,List.length_cons,List.length_nil];omega)) only [go_sem]
 refine allocC_by fun b hb=>?_
 have hp:=putU32_ok (σ:=σ.set b (some (.obj [.int .u8 0,.int .u8 0,.int .u8 0,.int .u8 0]))) (B:=b) (o:=0) (n:=4) (c:=4) (ASt.set_same _ _ _) (by decide) (by decide) hv
 have e:spl [AV.int .u8 0,.int .u8 0,.int .u8 0,.int .u8 0] 0 (bytesAV (le32 v))=bytesAV (le32 v):=rfl
 have et:(bytesAV (le32 v)).take 4=bytesAV (le32 v):=rfl
 rw [e,ASt.set_set] at hp
 simp (disch:=first|assumption|omega|(simp only [List.length_append,List.length_cons,List.length_nil];omega)) only [go_sem]
 refine hp.mono ?_
 rintro r σ' ⟨rfl,rfl⟩
 have l4:4<=(le32 v).length:=Nat.le_refl _
 simp (disch:=first|assumption|omega|(simp only [List.length_append,List.length_cons,List.length_nil];omega)) only [go_sem,List.drop_zero,et,l4]
 exact retC_by (Drop.set hb) (.refl _) ⟨rfl,rfl⟩
end Go.A
namespace Go.A
open Go.Proofs
/-! 75: (*tabular/disk.Disk).Room -/
def c75_3:ACode := .seq (.ops [ oq 2 (.mv (.v (.int .i64 0)))]) (.seq (.ops [ oq 3 (.mv (.t 0)),oq 4 (.nc (.t 3)),oq 5 (.fa 1 (.t 4)),oq 6 (.ld none (.t 5)),oq 7 (.mv (.t 0)),oq 10 (.mv (.t 0)),oq 11 (.nc (.t 10)),oq 12 (.fa 2 (.t 11)),oq 13 (.ld none (.t 12)),oq 14 (.len (.t 13)),⟨some 8,none,.e (.call 77 [(.t 7)]),[⟨none,.ld none (.t 5),6⟩,⟨none,.ld none (.t 12),13⟩]⟩,oq 9 (.bin .sub (.t 6) (.t 8)),oq 15 (.bin .add (.t 9) (.t 14)),oq 2 (.mv (.t 15))]) .ret)
@[go_sem] def c75_3_wp:=wp_of c75_3.eq_1
def c75:AFn:=⟨16,[.t 2],c75_3⟩
theorem c75_ok:compF Tryz.prog Tryz.f75=some c75:=by kernel_rfl
theorem a75 {args:List AV} {σ:ASt} {R:AV->ASt->Prop} (hl:args.length<=16) (h:c75_3.wp Tryz.prog (RetQ [.t 2] R) (init args) σ):ACalls Tryz.prog 75 args σ R:=acalls_of Tryz.func75 c75_ok hl h
/-! 76: (*tabular/disk.Disk).fail -/
def c76_16:ACode := .seq (.ops [ oq 4 (.mv (.v (.int .i64 0)))]) (.seq (.seq (.ops [ oq 5 (.mv (.t 1)),oq 6 (.nc (.t 5)),oq 7 (.ld none (.t 6)),oq 8 (.bin .eql (.t 7) (.v (.int .i64 0)))]) (.cond (.t 8) (.seq (.ops [ oq 9 (.mv (.t 1)),oq 10 (.nc (.t 9)),oz (.store 1 (.t 10) (.v (.int .i64 (-1))))]) (.seq (.ops [ oq 4 (.mv (.v (.int .i64 7)))]) .ret)) .skip)) (.seq (.seq (.ops [ oq 11 (.mv (.t 1)),oq 12 (.nc (.t 11)),oq 13 (.ld none (.t 12)),oq 14 (.bin .gtr (.t 13) (.v (.int .i64 0)))]) (.cond (.t 14) (.ops [ oq 15 (.mv (.t 1)),oq 16 (.nc (.t 15)),oq 17 (.ld none (.t 16)),oq 18 (.bin .sub (.t 17) (.v (.int .i64 1))),oq 19 (.nc (.t 15)),oz (.store 1 (.t 19) (.t 18))]) .skip)) (.seq (.ops [ oq 4 (.mv (.v (.int .i64 0)))]) .ret)))
@[go_sem] def c76_16_wp:=wp_of c76_16.eq_1
def c76:AFn:=⟨20,[.t 4],c76_16⟩
theorem c76_ok:compF Tryz.prog Tryz.f76=some c76:=by kernel_rfl
theorem a76 {args:List AV} {σ:ASt} {R:AV->ASt->Prop} (hl:args.length<=20) (h:c76_16.wp Tryz.prog (RetQ [.t 4] R) (init args) σ):ACalls Tryz.prog 76 args σ R:=acalls_of Tryz.func76 c76_ok hl h
/-! 77: (*tabular/disk.Disk).Count -/
def c77_3:ACode := .seq (.ops [ oq 2 (.mv (.v (.int .i64 0)))]) (.seq (.ops [ oq 3 (.mv (.t 0)),oq 4 (.nc (.t 3)),oq 5 (.fa 0 (.t 4)),oq 6 (.ld none (.t 5)),oq 7 (.len (.t 6)),oq 8 (.bin .quo (.t 7) (.v (.int .i64 512))),oq 2 (.mv (.t 8))]) .ret)
@[go_sem] def c77_3_wp:=wp_of c77_3.eq_1
def c77:AFn:=⟨9,[.t 2],c77_3⟩
theorem c77_ok:compF Tryz.prog Tryz.f77=some c77:=by kernel_rfl
theorem a77 {args:List AV} {σ:ASt} {R:AV->ASt->Prop} (hl:args.length<=9) (h:c77_3.wp Tryz.prog (RetQ [.t 2] R) (init args) σ):ACalls Tryz.prog 77 args σ R:=acalls_of Tryz.func77 c77_ok hl h
end Go.A
namespace Go.A
open Go.Proofs
structure Dsk where
 b:List UInt8
 most:Int
 free:List Nat
 isF:List Bool
 rl:Int
 wl:Int
 rd:Int
 pt:Int
def bodyB (p:Nat) (s:List UInt8):List UInt8:=le32 p++s++List.replicate (504-s.length) 0
def pageB (p:Nat) (s:List UInt8):List UInt8:=le32 (ckN (bodyB p s))++bodyB p s
def layP (b:List UInt8) (p:Nat) (s:List UInt8):List UInt8:=b.take (p*512)++pageB p s++b.drop ((p+1)*512)
theorem pageB_len {p:Nat} {s:List UInt8} (h:s.length<=504):(pageB p s).length=512:=by
 unfold pageB bodyB
 simp only [List.length_append,le32_len,List.length_replicate]
 omega
theorem layP_len {b:List UInt8} {p:Nat} {s:List UInt8} (h:s.length<=504) (hp:(p+1)*512<=b.length):(layP b p s).length=b.length:=by
 unfold layP
 rw [List.length_append,List.length_append,pageB_len h,List.length_take,List.length_drop]
 omega
structure Dsk.ok (D:Dsk):Prop where
 len:D.b.length=D.isF.length*512
 one:1<=D.isF.length
 most:D.isF.length<=D.most/\D.most<=60000
 free:∀ p∈D.free,p<D.isF.length
 few:D.free.length<=D.isF.length
 rl : -1<=D.rl/\D.rl<=1000000000
 wl : -1<=D.wl/\D.wl<=1000000000
 rd : -9223372036854775808<=D.rd/\D.rd<=9223372036854775807
 pt : -9223372036854775808<=D.pt/\D.pt<=9223372036854775807
def Dsk.cs (D:Dsk) (B cB:Nat) (fv:AV) (I cI:Nat):List AV := [.msl B 0 D.b.length cB,.int .i64 D.most,fv,.msl I 0 D.isF.length cI,.int .i64 D.rl,.int .i64 D.wl,.int .i64 D.rd,.int .i64 D.pt]
def freeV (l:List Nat):List AV:=l.map fun (n:Nat)=>AV.int .i64 (n:Int)
structure DM (σ0:ASt) (d:Nat) (D:Dsk) (σ:ASt) (B cB:Nat) (rB:List AV) (fv:AV) (F:Nat) (I cI:Nat) (rI:List AV):Prop where
 hd:σ d=some (.obj (D.cs B cB fv I cI))
 hB:σ B=some (.obj (bytesAV D.b++rB))
 hI:σ I=some (.obj (D.isF.map AV.bool++rI))
 cB:D.b.length<=cB/\rB.length=cB-D.b.length
 cI:D.isF.length<=cI/\rI.length=cI-D.isF.length
 hF:(D.free = []/\fv = .sl .full []/\F=d)\/∃ cF rF,fv = .msl F 0 D.free.length cF/\σ F=some (.obj (freeV D.free++rF))/\D.free.length<=cF/\rF.length=cF-D.free.length/\F≠d/\F≠B/\F≠I/\σ0 F=none
 n1:d≠B
 n2:d≠I
 n3:B≠I
 z1:σ0 d=none
 z2:σ0 B=none
 z3:σ0 I=none
 out:∀ x,x≠d->x≠B->x≠I->x≠F->σ0 x=σ x\/σ0 x=none
def DiskAt (σ0:ASt) (d:Nat) (D:Dsk) (σ:ASt):Prop:=∃ B cB rB fv F I cI rI,DM σ0 d D σ B cB rB fv F I cI rI
theorem DM.zF {σ0 σ:ASt} {d B cB F I cI:Nat} {D:Dsk} {rB rI:List AV} {fv:AV} (h:DM σ0 d D σ B cB rB fv F I cI rI):σ0 F=none:=by
 rcases h.hF with ⟨_,_,rfl⟩|⟨_,_,_,_,_,_,_,_,_,h2⟩
 ·exact h.z1
 ·exact h2
theorem DM.drop {σ0 σ:ASt} {d B cB F I cI:Nat} {D:Dsk} {rB rI:List AV} {fv:AV} (h:DM σ0 d D σ B cB rB fv F I cI rI):Drop σ σ0:=by
 intro x
 by_cases h1:x=d
 ·rw [h1];exact .inr h.z1
 by_cases h2:x=B
 ·rw [h2];exact .inr h.z2
 by_cases h3:x=I
 ·rw [h3];exact .inr h.z3
 by_cases h4:x=F
 ·rw [h4];exact .inr h.zF
 exact h.out x h1 h2 h3 h4
theorem DiskAt.drop {σ0 σ:ASt} {d:Nat} {D:Dsk} (h:DiskAt σ0 d D σ):Drop σ σ0:=by
 obtain ⟨B,cB,rB,fv,F,I,cI,rI,h⟩:=h
 exact h.drop
theorem DM.at {σ0 σ:ASt} {d B cB F I cI:Nat} {D:Dsk} {rB rI:List AV} {fv:AV} (h:DM σ0 d D σ B cB rB fv F I cI rI) {x:Nat} {r:Role} (hx:σ0 x=some r):σ x=some r:=by
 have hne:∀ y,σ0 y=none->x≠y:=fun y hy he=>by rw [he,hy] at hx;cases hx
 rcases h.out x (hne _ h.z1) (hne _ h.z2) (hne _ h.z3) (hne _ h.zF) with h1|h1
 ·rw [<-h1];exact hx
 ·rw [h1] at hx;cases hx
theorem DiskAt.at {σ0 σ:ASt} {d:Nat} {D:Dsk} (h:DiskAt σ0 d D σ) {x:Nat} {r:Role} (hx:σ0 x=some r):σ x=some r:=by
 obtain ⟨B,cB,rB,fv,F,I,cI,rI,h⟩:=h
 exact h.at hx
theorem DM.cells {σ0 σ:ASt} {d B cB F I cI:Nat} {D D':Dsk} {rB rI:List AV} {fv:AV} (h:DM σ0 d D σ B cB rB fv F I cI rI) (hb:D'.b=D.b) (hf:D'.free=D.free) (hi:D'.isF=D.isF):DM σ0 d D' (σ.set d (some (.obj (D'.cs B cB fv I cI)))) B cB rB fv F I cI rI:=by
 have hF:=h.hF
 refine ⟨ASt.set_same _ _ _,?_,?_,by rw [hb];exact h.cB,by rw [hi];exact h.cI,?_,h.n1,h.n2,h.n3,h.z1,h.z2,h.z3,?_⟩
 ·rw [ASt.set_ne (Ne.symm h.n1),hb];exact h.hB
 ·rw [ASt.set_ne (Ne.symm h.n2),hi];exact h.hI
 ·rcases hF with ⟨h1,h2,h3⟩|⟨cF,rF,h1,h2,h3,h4,h5,h6,h7,h8⟩
  ·exact .inl ⟨hf.trans h1,h2,h3⟩
  ·rw [hf];exact .inr ⟨cF,rF,h1,by rw [ASt.set_ne h5];exact h2,h3,h4,h5,h6,h7,h8⟩
 ·intro x h1 h2 h3 h4
  rw [ASt.set_ne h1];exact h.out x h1 h2 h3 h4
section
variable {σ0 σ:ASt} {d B cB F I cI:Nat} {D:Dsk} {rB rI:List AV} {fv:AV}
theorem dkcount_ok (h:DM σ0 d D σ B cB rB fv F I cI rI) (ho:D.ok):ACalls Tryz.prog 77 [.ptr d 0] σ fun v σ'=>v = .int .i64 D.isF.length/\σ'=σ:=by
 have hd:=h.hd
 have hl:=ho.len
 have hm:=ho.most
 unfold Dsk.cs at hd
 have e:((D.b.length:Nat):Int).tdiv 512=(D.isF.length:Int):=by
  rw [hl,Int.natCast_mul]
  exact Int.mul_tdiv_cancel _ (by decide)
 refine a77 (by simp) ?_
 simp (disch:=first|assumption|omega|(simp only [List.length_append,List.length_cons,List.length_nil];omega)) only [go_sem,hd,e]
 exact retC_by (.refl _) (.refl _) ⟨rfl,rfl⟩
theorem dkroom_ok (h:DM σ0 d D σ B cB rB fv F I cI rI) (ho:D.ok):ACalls Tryz.prog 75 [.ptr d 0] σ fun v σ'=>v = .int .i64 (D.most-D.isF.length+D.free.length)/\σ'=σ:=by
 have hd:=h.hd
 have hm:=ho.most
 have hw:=ho.few
 have hc:=dkcount_ok h ho
 unfold Dsk.cs at hd
 rcases h.hF with ⟨h1,h2,_⟩|⟨cF,rF,h1,_⟩
 ·rw [h1]
  rw [h2] at hd
  refine a75 (by simp) ?_
  simp (disch:=first|assumption|omega|(simp only [List.length_append,List.length_cons,List.length_nil];omega)) only [go_sem,hd]
  refine hc.mono ?_
  rintro v σ' ⟨rfl,rfl⟩
  simp (disch:=first|assumption|omega|(simp only [List.length_append,List.length_cons,List.length_nil];omega)) only [go_sem,hd]
  exact retC_by (.refl _) (.refl _) ⟨rfl,rfl⟩
 ·rw [h1] at hd
  refine a75 (by simp) ?_
  simp (disch:=first|assumption|omega|(simp only [List.length_append,List.length_cons,List.length_nil];omega)) only [go_sem,hd]
  refine hc.mono ?_
  rintro v σ' ⟨rfl,rfl⟩
  simp (disch:=first|assumption|omega|(simp only [List.length_append,List.length_cons,List.length_nil];omega)) only [go_sem,hd]
  exact retC_by (.refl _) (.refl _) ⟨rfl,rfl⟩
def failD (l:Int):Int×Int:=if l=0 then (-1,7) else if 0<l then (l-1,0) else (l,0)
theorem dkfailW_ok (h:DM σ0 d D σ B cB rB fv F I cI rI) (ho:D.ok):ACalls Tryz.prog 76 [.ptr d 0,.ptr d 5] σ fun v σ'=>v = .int .i64 (failD D.wl).2/\σ'=σ.set d (some (.obj ({ D with wl:=(failD D.wl).1 }.cs B cB fv I cI))):=by
 have hd:=h.hd
 have hw:=ho.wl
 have hset:σ.set d (some (.obj (D.cs B cB fv I cI)))=σ:=by
  funext x
  by_cases hx:x=d
  ·rw [hx,ASt.set_same,hd]
  ·rw [ASt.set_ne hx]
 unfold Dsk.cs at hd hset ⊢
 unfold failD
 by_cases g:D.wl=0
 ·rw [if_pos g]
  refine a76 (by simp) ?_
  simp (disch:=first|assumption|omega|(simp only [List.length_append,List.length_cons,List.length_nil];omega)) only [go_sem,hd,g]
  exact retC_by (.refl _) (.refl _) ⟨rfl,rfl⟩
 ·rw [if_neg g]
  by_cases g2:0<D.wl
  ·rw [if_pos g2]
   refine a76 (by simp) ?_
   simp (disch:=first|assumption|omega|(simp only [List.length_append,List.length_cons,List.length_nil];omega)) only [go_sem,hd,g,g2]
   exact retC_by (.refl _) (.refl _) ⟨rfl,rfl⟩
  ·rw [if_neg g2]
   refine a76 (by simp) ?_
   simp (disch:=first|assumption|omega|(simp only [List.length_append,List.length_cons,List.length_nil];omega)) only [go_sem,hd,g,g2]
   exact retC_by (.refl _) (.refl _) ⟨rfl,hset.symm⟩
end
end Go.A
namespace Go.A
open Go.Proofs
/-! 78: (*tabular/disk.Disk).lay -/
def c78_4:ACode := .ops [ oq 31 (.mv (.t 6)),oq 32 (.mv (.t 6)),oq 33 (.slfrom (false,1) (.t 32) (.v (.int .i64 4))),oq 34 (.b2s (.t 33)),oe 35 (.call 80 [(.t 34)]),oe 36 (.call 81 [(.t 35)]),oe 37 (.cpy (.t 31) (.t 36))]
def c78_8:ACode := .seq (.ops [ oq 7 (.mv (.t 0)),oq 8 (.nc (.t 7)),oq 9 (.fa 0 (.t 8)),oq 10 (.ld none (.t 9)),oq 11 (.mv (.t 1)),oq 12 (.bin .mul (.t 11) (.v (.int .i64 512))),oq 13 (.mv (.t 1)),oq 14 (.bin .add (.t 13) (.v (.int .i64 1))),oq 15 (.bin .mul (.t 14) (.v (.int .i64 512))),oq 16 (.sls (false,1) (.t 10) (.t 12) (.t 15)),oq 6 (.mv (.t 16))]) (.seq (.ops [ oq 17 (.mv (.t 6)),oq 18 (.slfrom (false,1) (.t 17) (.v (.int .i64 4))),oq 19 (.mv (.t 1)),oq 20 (.conv .u32 (.t 19)),oe 21 (.call 36 [(.t 18),(.t 20)])]) (.seq (.ops [ oq 22 (.mv (.t 6)),oq 23 (.slfrom (false,1) (.t 22) (.v (.int .i64 8))),oq 24 (.mv (.t 2)),oe 25 (.cpy (.t 23) (.t 24))]) (.seq (.ops [ oq 26 (.mv (.t 6)),oq 27 (.mv (.t 2)),oq 28 (.lenS (.t 27)),oq 29 (.bin .add (.v (.int .i64 8)) (.t 28)),oq 30 (.slfrom (false,1) (.t 26) (.t 29)),oz (.clr [(.int .u8 0)] (.t 30))]) c78_4)))
@[go_sem] def c78_4_wp:=wp_of c78_4.eq_1
@[go_sem] def c78_8_wp:=wp_of c78_8.eq_1
def c78:AFn:=⟨38,[],c78_8⟩
theorem c78_ok:compF Tryz.prog Tryz.f78=some c78:=by kernel_rfl
theorem a78 {args:List AV} {σ:ASt} {R:AV->ASt->Prop} (hl:args.length<=38) (h:c78_8.wp Tryz.prog (RetQ [] R) (init args) σ):ACalls Tryz.prog 78 args σ R:=acalls_of Tryz.func78 c78_ok hl h
end Go.A
namespace Go.A
open Go.Proofs
theorem kbytes_app (l m:List UInt8):bytesAV (l++m)=bytesAV l++bytesAV m:=by simp [bytesAV]
theorem kbytes_len (l:List UInt8):(bytesAV l).length=l.length:=by simp [bytesAV]
theorem mem_spl {l x y z ys:List UInt8} {r:List AV} {o:Nat} (h:l=x++y++z) (hy:y.length=ys.length) (ho:x.length=o):spl (bytesAV l++r) o (bytesAV ys)=bytesAV (x++ys++z)++r:=by
 subst ho h
 unfold spl
 rw [kbytes_len,kbytes_app,kbytes_app,kbytes_app,kbytes_app]
 have e1:(bytesAV x++bytesAV y++bytesAV z++r).take x.length=bytesAV x:=by
  rw [List.append_assoc,List.append_assoc,← kbytes_len x,List.take_left]
 have e2:(bytesAV x++bytesAV y++bytesAV z++r).drop (x.length+ys.length)=bytesAV z++r:=by
  have hl:x.length+ys.length=(bytesAV x++bytesAV y).length:=by rw [List.length_append,kbytes_len,kbytes_len,hy]
  rw [hl,List.append_assoc (bytesAV x++bytesAV y),List.drop_left]
 rw [e1,e2]
 simp only [List.append_assoc]
theorem mem_get {l x y z:List UInt8} {r:List AV} {o n:Nat} (h:l=x++y++z) (ho:x.length=o) (hn:y.length=n):((bytesAV l++r).drop o).take n=bytesAV y:=by
 subst ho hn h
 rw [kbytes_app,kbytes_app]
 have e1:(bytesAV x++bytesAV y++bytesAV z++r).drop x.length=bytesAV y++(bytesAV z++r):=by
  rw [List.append_assoc,List.append_assoc,← kbytes_len x,List.drop_left]
 rw [e1,← kbytes_len y,List.take_left]
theorem slV_end {s b o n c:Nat} {lo hi:Int} (h0:0<=lo) (h1:lo<=hi) (h2:hi<=c) (h3:lo=c):slV (false,s) (.msl b o n c) lo hi=some (.msl b o (hi.toNat-lo.toNat) (c-lo.toNat)):=by
 unfold slV
 rw [if_neg (by omega)]
 dsimp only
 rw [if_pos h2,if_pos h3]
section
variable {σ0 σ:ASt} {d B cB F I cI:Nat} {D:Dsk} {rB rI:List AV} {fv:AV}
set_option maxHeartbeats 1000000 in
theorem dklay_ok (hT:CkT σ) (h:DM σ0 d D σ B cB rB fv F I cI rI) (ho:D.ok) {p:Nat} (hp:p<D.isF.length) {s:List UInt8} (hs:s.length<=504) :
  ACalls Tryz.prog 78 [.ptr d 0,.int .i64 p,.str s] σ fun v σ'=>v = .tuple []/\σ'=σ.set B (some (.obj (bytesAV (layP D.b p s)++rB))):=by
 have hd:=h.hd
 have hB:=h.hB
 have hm:=ho.most
 have hbl:=ho.len
 obtain ⟨hc1,hc2⟩:=h.cB
 have hdB:d≠B:=h.n1
 unfold Dsk.cs at hd
 unfold CkT at hT
 have hgB:0≠B:=by rintro he;rw [<-he,hT] at hB;cases hB
 have hCk:∀ r,CkT (σ.set B r):=fun r=>by unfold CkT;rw [ASt.set_ne hgB];exact hT
 obtain ⟨P,hP⟩:∃ P,P=p*512:=⟨_,rfl⟩
 have hP2:(p+1)*512=P+512:=by omega
 have hPn:P+512<=D.b.length:=by
  rw [hbl,← hP2]
  exact Nat.mul_le_mul_right _ hp
 obtain ⟨A,hA⟩:∃ A,A=D.b.take P:=⟨_,rfl⟩
 obtain ⟨C,hC⟩:∃ C,C=D.b.drop (P+512):=⟨_,rfl⟩
 obtain ⟨pg,hpg⟩:∃ pg,pg=(D.b.drop P).take 512:=⟨_,rfl⟩
 have hAl:A.length=P:=by rw [hA,List.length_take];omega
 have hpl:pg.length=512:=by rw [hpg,List.length_take,List.length_drop];omega
 have hbe:D.b=A++pg++C:=by
  rw [hA,hpg,hC,List.append_assoc,← List.drop_drop,List.take_append_drop,List.take_append_drop]
 have hlay:layP D.b p s=A++pageB p s++C:=by
  unfold layP
  rw [<-hP,hP2,← hA,← hC]
 rw [hlay]
 obtain ⟨w,hw⟩:∃ w,w=le32 p:=⟨_,rfl⟩
 have hwl:w.length=4:=by rw [hw];rfl
 obtain ⟨Z,hZ⟩:∃ Z,Z=List.replicate (504-s.length) (0:UInt8):=⟨_,rfl⟩
 have hZl:Z.length=504-s.length:=by rw [hZ,List.length_replicate]
 have hbody:bodyB p s=w++s++Z:=by rw [hw,hZ];rfl
 have hpage:pageB p s=le32 (ckN (w++s++Z))++(w++s++Z):=by unfold pageB;rw [hbody]
 rw [hpage]
 have hsl:=ckN_lt (w++s++Z)
 have hsumm:∀ τ,CkT τ->ACalls Tryz.prog 80 [.str (w++s++Z)] τ fun v σ'=>v = .int .u32 (ckN (w++s++Z):Nat)/\σ'=τ:=fun τ hτ=>cksum_ok hτ _ (by simp only [List.length_append];omega)
 have hput:=ckput_ok hsl
 obtain ⟨u,hu⟩:∃ u,u=le32 (ckN (w++s++Z)):=⟨_,rfl⟩
 have hul:u.length=4:=by rw [hu];rfl
 rw [<-hu] at hput ⊢
 have d4:pg=pg.take 4++(pg.drop 4).take 4++pg.drop 8:=by
  have e:pg.drop 8=(pg.drop 4).drop 4:=by rw [List.drop_drop]
  rw [e,List.append_assoc,List.take_append_drop,List.take_append_drop]
 obtain ⟨P0,hP0⟩:∃ P0,P0=pg.take 4:=⟨_,rfl⟩
 obtain ⟨P1,hP1⟩:∃ P1,P1=(pg.drop 4).take 4:=⟨_,rfl⟩
 obtain ⟨R,hR⟩:∃ R,R=pg.drop 8:=⟨_,rfl⟩
 rw [<-hP0,← hP1,← hR] at d4
 have l0:P0.length=4:=by rw [hP0,List.length_take];omega
 have l1:P1.length=4:=by rw [hP1,List.length_take,List.length_drop];omega
 have l2:R.length=504:=by rw [hR,List.length_drop];omega
 have l3:(R.take s.length).length=s.length:=by rw [List.length_take];omega
 have l4:(R.drop s.length).length=504-s.length:=by rw [List.length_drop];omega
 have m1:spl (bytesAV D.b++rB) (P+4) (bytesAV w)=bytesAV ((A++P0)++w++(R++C))++rB:=
  mem_spl (y:=P1) (by rw [hbe,d4];simp only [List.append_assoc]) (by omega) (by rw [List.length_append];omega)
 have m2:spl (bytesAV ((A++P0)++w++(R++C))++rB) (P+8) (bytesAV s)=bytesAV ((A++P0++w)++s++(R.drop s.length++C))++rB:=
  mem_spl (y:=R.take s.length) (by
   have e:R=R.take s.length++R.drop s.length:=(List.take_append_drop _ _).symm
   conv=>lhs;rw [e]
   simp only [List.append_assoc]) l3 (by simp only [List.length_append];omega)
 have m3:spl (bytesAV ((A++P0++w)++s++(R.drop s.length++C))++rB) (P+(8+s.length)) (bytesAV Z)=bytesAV ((A++P0++w++s)++Z++C)++rB:=
  mem_spl (y:=R.drop s.length) (by simp only [List.append_assoc]) (by omega) (by simp only [List.length_append];omega)
 have m4:((bytesAV ((A++P0++w++s)++Z++C)++rB).drop (P+4)).take 508=bytesAV (w++s++Z):=
  mem_get (x:=A++P0) (z:=C) (by simp only [List.append_assoc]) (by rw [List.length_append];omega) (by simp only [List.length_append];omega)
 have m5:spl (bytesAV ((A++P0++w++s)++Z++C)++rB) P (bytesAV u)=bytesAV (A++(u++(w++s++Z))++C)++rB:=by
  rw [mem_spl (x:=A) (y:=P0) (z:=w++s++Z++C) (by simp only [List.append_assoc]) (by omega) hAl]
  congr 2
  simp only [List.append_assoc]
 have t0:(bytesAV D.b++rB).length=cB:=by rw [List.length_append,kbytes_len];omega
 have t1:(bytesAV ((A++P0)++w++(R++C))++rB).length=cB:=by rw [<-m1,spl_len (by rw [kbytes_len,hwl,t0];omega)];exact t0
 have t2:(bytesAV ((A++P0++w)++s++(R.drop s.length++C))++rB).length=cB:=by rw [<-m2,spl_len (by rw [kbytes_len,t1];omega)];exact t1
 have t3:(bytesAV ((A++P0++w++s)++Z++C)++rB).length=cB:=by rw [<-m3,spl_len (by rw [kbytes_len,hZl,t2];omega)];exact t2
 have hput1:=putU32_ok (B:=B) (o:=P+4) (n:=508) (c:=cB-P-4) (v:=p) hB (by omega) (by omega) (by omega)
 rw [<-hw,m1] at hput1
 have hZa:(List.replicate (512-(8+s.length)) [AV.int .u8 0]).flatten=bytesAV Z:=by
  rw [hZ]
  have e:512-(8+s.length)=504-s.length:=by omega
  rw [e]
  generalize 504-s.length=k
  induction k with
  | zero=>rfl
  | succ k ih=>rw [List.replicate_succ,List.flatten_cons,ih,List.replicate_succ];rfl
 have hZn:(bytesAV Z).length=512-(8+s.length):=by rw [kbytes_len,hZl];omega
 have hst:s.take 504=s:=List.take_of_length_le hs
 have hut:u.take 512=u:=List.take_of_length_le (by omega)
 have hbs:(bytesAV s).length=s.length:=kbytes_len s
 have hbu:(bytesAV u).length=u.length:=kbytes_len u
 generalize bytesAV ((A++P0)++w++(R++C))++rB=M1 at *
 generalize bytesAV ((A++P0++w)++s++(R.drop s.length++C))++rB=M2 at *
 generalize bytesAV ((A++P0++w++s)++Z++C)++rB=M3 at *
 generalize bytesAV (A++(u++(w++s++Z))++C)++rB=M4 at *
 generalize bytesAV D.b++rB=M0 at *
 generalize hbody':w++s++Z=body at *
 clear hbe hlay hpage hbody d4 hA hC hpg hP0 hP1 hR hZ hw hu l0 l1 l2 l3 l4
 have e1:((p:Int)*512).toNat=P:=by omega
 have e2:(((p:Int)+1)*512).toNat=P+512:=by omega
 have e4:(8+(s.length:Int)).toNat=8+s.length:=by omega
 have q0:0<=(p:Int)*512:=by omega
 have q1:(p:Int)*512<=((p:Int)+1)*512:=by omega
 have q2:((p:Int)+1)*512<=(cB:Int):=by omega
 have q3:(p:Int)*512<(cB:Int):=by omega
 obtain ⟨L,hL⟩:∃ L:Nat,L=512:=⟨_,rfl⟩
 have hLi:(L:Int)=512:=by omega
 have e3:P+512-P=L:=by omega
 obtain ⟨c1,hc1'⟩:∃ c,c=cB-P:=⟨_,rfl⟩
 rw [<-hc1'] at hput1
 have hcP:=hc1'.symm
 have hpb:(p:Int)<=60000:=by omega
 have z0:0+P*1=P:=by omega
 refine a78 (by simp) ?_
 simp (disch:=first|assumption|omega|(simp only [List.length_append,List.length_cons,List.length_nil];omega)) only [go_sem,hd,e1,e2,e3,hcP,hLi,z0,Nat.zero_add]
 refine hput1.mono ?_
 rintro v σ1 ⟨rfl,rfl⟩
 have c504:(504:Nat)<=c1:=by omega
 simp (disch:=first|assumption|omega|(simp only [List.length_append,List.length_cons,List.length_nil];omega)) only [go_sem,hd,hcP,hLi,ASt.set_ne,ASt.set_set]
 refine cpyC_by (ASt.set_same _ _ _) (by omega) ?_
 rw [hst,← hbs,splice_spl,m2,ASt.set_set]
 have hfin:∀ a1:AFr,a1 6 = .msl B P L c1->ACode.wp Tryz.prog c78_4 (RetQ [] fun v σ'=>v=AV.tuple []/\σ'=σ.set B (some (Role.obj M4))) a1 (σ.set B (some (Role.obj M3))):=by
  intro a1 h6
  have hs3:=hsumm _ (hCk (some (.obj M3)))
  have r8:P+4+508<=M3.length:=by omega
  simp (disch:=first|assumption|omega|(simp only [List.length_append,List.length_cons,List.length_nil];omega)) only [go_sem,h6,hLi,m4,r8]
  refine hs3.mono ?_
  rintro v σ1 ⟨rfl,rfl⟩
  simp (disch:=first|assumption|omega|(simp only [List.length_append,List.length_cons,List.length_nil];omega)) only [go_sem,h6,hLi]
  refine hput.use ?_
  simp (disch:=first|assumption|omega|(simp only [List.length_append,List.length_cons,List.length_nil];omega)) only [go_sem,h6,hLi]
  refine cpyC_by (ASt.set_same _ _ _) (by omega) ?_
  rw [hL,hut,← hbu,splice_spl,m5,ASt.set_set]
  simp (disch:=first|assumption|omega|(simp only [List.length_append,List.length_cons,List.length_nil];omega)) only [go_sem,h6]
  exact retC_by (.refl _) (.refl _) ⟨rfl,rfl⟩
 obtain ⟨F4,hF4⟩:∃ F,F=ACode.wp Tryz.prog c78_4:=⟨_,rfl⟩
 have b8:8+(s.length:Int)<=512:=by omega
 have b512:(512:Int)<=(c1:Int):=by omega
 have b0:0<=8+(s.length:Int):=by omega
 by_cases g:8+s.length<c1
 ·have g':8+(s.length:Int)<(c1:Int):=by omega
  simp (disch:=first|assumption|omega|(simp only [List.length_append,List.length_cons,List.length_nil];omega)) only [go_sem,hd,e4,hLi]
  refine clrC_by (ASt.set_same _ _ _) rfl (by simp only [List.length_singleton];omega) ?_
  have hnn:(512-(8+s.length)) * [AV.int .u8 0].length=(bytesAV Z).length:=by rw [hZn,List.length_singleton,Nat.mul_one]
  rw [hZa,hnn,splice_spl,m3,ASt.set_set]
  simp (disch:=first|assumption|omega|(simp only [List.length_append,List.length_cons,List.length_nil];omega)) only [go_sem,hd,←hF4]
  rw [hF4]
  refine hfin _ ?_
  simp (disch:=first|assumption|omega|(simp only [List.length_append,List.length_cons,List.length_nil];omega)) only [go_sem]
 ·have hc:c1=512:=by omega
  have hl504:s.length=504:=by omega
  have hse:slV (false,1) (AV.msl B P L c1) (8+(s.length:Int)) 512=some (.msl B P 0 0):=by
   rw [slV_end b0 b8 b512 (by omega)]
   have x1:(512:Int).toNat-(8+(s.length:Int)).toNat=0:=by omega
   have x2:c1-(8+(s.length:Int)).toNat=0:=by omega
   rw [x1,x2]
  have hZ0:bytesAV Z = []:=List.eq_nil_of_length_eq_zero (by rw [hZn];omega)
  rw [hZ0,spl_nil] at m3
  simp (disch:=first|assumption|omega|(simp only [List.length_append,List.length_cons,List.length_nil];omega)) only [go_sem,hd,e4,hLi,hse]
  refine clrC_by (ASt.set_same _ _ _) rfl (by simp only [List.length_singleton];omega) ?_
  have hnn:(List.replicate 0 [AV.int .u8 0]).flatten = []:=rfl
  have hs0:splice M2 P (0 * [AV.int .u8 0].length) []=M2:=by rw [Nat.zero_mul];exact spl_nil M2 P
  rw [hnn,hs0,m3,ASt.set_set]
  simp (disch:=first|assumption|omega|(simp only [List.length_append,List.length_cons,List.length_nil];omega)) only [go_sem,hd,←hF4]
  rw [hF4]
  refine hfin _ ?_
  simp (disch:=first|assumption|omega|(simp only [List.length_append,List.length_cons,List.length_nil];omega)) only [go_sem]
theorem DM.lay (h:DM σ0 d D σ B cB rB fv F I cI rI) {b':List UInt8} (hl:b'.length=D.b.length):DM σ0 d { D with b:=b' } (σ.set B (some (.obj (bytesAV b'++rB)))) B cB rB fv F I cI rI:=by
 have hF:=h.hF
 refine ⟨?_,ASt.set_same _ _ _,?_,by rw [hl];exact h.cB,h.cI,?_,h.n1,h.n2,h.n3,h.z1,h.z2,h.z3,?_⟩
 ·rw [ASt.set_ne h.n1,h.hd]
  unfold Dsk.cs
  rw [hl]
 ·rw [ASt.set_ne (Ne.symm h.n3)];exact h.hI
 ·rcases hF with ⟨h1,h2,h3⟩|⟨cF,rF,h1,h2,h3,h4,h5,h6,h7,h8⟩
  ·exact .inl ⟨h1,h2,h3⟩
  ·exact .inr ⟨cF,rF,h1,by rw [ASt.set_ne h6];exact h2,h3,h4,h5,h6,h7,h8⟩
 ·intro x h1 h2 h3 h4
  rw [ASt.set_ne h2];exact h.out x h1 h2 h3 h4
end
end Go.A
namespace Go.A
open Go.Proofs
/-! 29: (*tabular/disk.Disk).Flush -/
def c29_15:ACode := .seq (.ops [ oq 2 (.mv (.v (.int .i64 0)))]) (.seq (.seq (.ops [ oq 4 (.mv (.t 0)),oq 5 (.mv (.t 0)),oq 6 (.nc (.t 5)),oq 7 (.fa 5 (.t 6)),oe 8 (.call 76 [(.t 4),(.t 7)]),oq 3 (.mv (.t 8))]) (.seq (.ops [ oq 9 (.mv (.t 3)),oq 10 (.bin .neq (.t 9) (.v (.int .i64 0)))]) (.cond (.t 10) (.seq (.ops [ oq 11 (.mv (.t 3)),oq 2 (.mv (.t 11))]) .ret) .skip))) (.seq (.ops [ oq 12 (.mv (.t 0)),oq 13 (.nc (.t 12)),oq 14 (.fa 7 (.t 13)),oq 15 (.ld none (.t 14)),oq 16 (.bin .add (.t 15) (.v (.int .i64 1))),oq 17 (.nc (.t 12)),oq 18 (.fa 7 (.t 17)),oz (.store 1 (.t 18) (.t 16))]) (.seq (.ops [ oq 19 (.mv (.t 0)),oq 20 (.mv (.t 0)),oq 25 (.mv (.t 0)),oq 26 (.mv (.t 0)),oq 27 (.nc (.t 26)),oq 28 (.fa 2 (.t 27)),oq 29 (.ld none (.t 28)),oq 30 (.len (.t 29)),⟨some 21,none,.e (.call 77 [(.t 20)]),[⟨none,.ld none (.t 28),29⟩]⟩,oq 22 (.conv .u32 (.t 21)),⟨some 23,none,.e (.call 85 [(.t 22)]),[⟨none,.ld none (.t 28),29⟩]⟩,oq 24 (.bin .add (.v (.str [84,65,66,85,76,65,82,49])) (.t 23)),oe 31 (.call 86 [(.t 25),(.t 30)]),oq 32 (.bin .add (.t 24) (.t 31)),oe 33 (.call 78 [(.t 19),(.v (.int .i64 0)),(.t 32)])]) (.seq (.ops [ oq 2 (.mv (.v (.int .i64 0)))]) .ret))))
@[go_sem] def c29_15_wp:=wp_of c29_15.eq_1
def c29:AFn:=⟨34,[.t 2],c29_15⟩
theorem c29_ok:compF Tryz.prog Tryz.f29=some c29:=by kernel_rfl
theorem a29 {args:List AV} {σ:ASt} {R:AV->ASt->Prop} (hl:args.length<=34) (h:c29_15.wp Tryz.prog (RetQ [.t 2] R) (init args) σ):ACalls Tryz.prog 29 args σ R:=acalls_of Tryz.func29 c29_ok hl h
/-! 86: (*tabular/disk.Disk).next -/
def c86_9:ACode := .seq (.ops [ oq 4 (.mv (.v (.str [])))]) (.seq (.seq (.ops [ oq 5 (.mv (.t 1)),oq 6 (.bin .eql (.t 5) (.v (.int .i64 0)))]) (.cond (.t 6) (.seq (.ops [ oe 7 (.call 85 [(.v (.int .u32 4294967295))]),oq 4 (.mv (.t 7))]) .ret) .skip)) (.seq (.ops [ oq 8 (.mv (.t 0)),oq 9 (.nc (.t 8)),oq 10 (.fa 2 (.t 9)),oq 11 (.ld none (.t 10)),oq 12 (.mv (.t 1)),oq 13 (.bin .sub (.t 12) (.v (.int .i64 1))),oq 14 (.ia 1 (.t 11) (.t 13)),oq 15 (.ld none (.t 14)),oq 16 (.conv .u32 (.t 15)),oe 17 (.call 85 [(.t 16)]),oq 4 (.mv (.t 17))]) .ret))
@[go_sem] def c86_9_wp:=wp_of c86_9.eq_1
def c86:AFn:=⟨18,[.t 4],c86_9⟩
theorem c86_ok:compF Tryz.prog Tryz.f86=some c86:=by kernel_rfl
theorem a86 {args:List AV} {σ:ASt} {R:AV->ASt->Prop} (hl:args.length<=18) (h:c86_9.wp Tryz.prog (RetQ [.t 4] R) (init args) σ):ACalls Tryz.prog 86 args σ R:=acalls_of Tryz.func86 c86_ok hl h
end Go.A
namespace Go.A
open Go.Proofs
theorem ACalls.off {P:Program} {σ σ2:ASt} {f:FuncId} {args:List AV} {K:AV->ASt->Prop} (hd:Drop σ σ2) (h:ACalls P f args σ2 K):ACalls P f args σ K:=by
 intro w vs hs hr
 refine (h w vs (hd.sim hs) (hr.mono (hd.le w))).mono ?_
 rintro e w' ⟨u,r,σ',he,hk,hle,hs',hr'⟩
 exact ⟨u,r,σ',he,hk,(hd.le w).trans hle,hs',hr'⟩
def nxfP (D:Dsk) (i:Nat):Nat:=if i=0 then 4294967295 else D.free.getD (i-1) 0
def headP (D:Dsk):List UInt8 := [84,65,66,85,76,65,82,49]++le32 D.isF.length++le32 (nxfP D D.free.length)
theorem headP_len (D:Dsk):(headP D).length=16:=rfl
section
variable {σ0 σ:ASt} {d B cB F I cI:Nat} {D:Dsk} {rB rI:List AV} {fv:AV}
theorem DM.next_lt (ho:D.ok) (i:Nat):nxfP D i<4294967296:=by
 unfold nxfP
 split
 ·decide
 ·rw [List.getD_eq_getElem?_getD]
  cases hx:D.free[i-1]? with
  | none=>exact (by decide:0<4294967296)
  | some p=>
    have h1:=ho.free p (List.mem_of_getElem? hx)
    have h2:=ho.most
    show p<4294967296
    omega
theorem dknext_ok (h:DM σ0 d D σ B cB rB fv F I cI rI) (ho:D.ok) {i:Nat} (hi:i<=D.free.length):ACalls Tryz.prog 86 [.ptr d 0,.int .i64 i] σ fun v σ'=>v = .str (le32 (nxfP D i))/\σ'=σ:=by
 have hd:=h.hd
 have hlt:=DM.next_lt ho i
 unfold Dsk.cs at hd
 by_cases g:i=0
 ·subst g
  have hw:=dkword_ok (v:=4294967295) (by decide)
  have e:nxfP D 0=4294967295:=rfl
  rw [e]
  refine a86 (by simp) ?_
  simp (disch:=first|assumption|omega|(simp only [List.length_append,List.length_cons,List.length_nil];omega)) only [go_sem]
  refine hw.use ?_
  simp (disch:=first|assumption|omega|(simp only [List.length_append,List.length_cons,List.length_nil];omega)) only [go_sem]
  exact retC_by (.refl _) (.refl _) ⟨rfl,rfl⟩
 ·rcases h.hF with ⟨h1,_,_⟩|⟨cF,rF,h1,h2,h3,h4,h5,h6,h7,h8⟩
  ·rw [h1] at hi
   exact absurd (Nat.le_zero.1 hi) g
  ·rw [h1] at hd
   have hx : D.free[i - 1]? = some (D.free[i - 1]'(by omega)) := List.getElem?_eq_getElem (by omega)
   have hn : nxfP D i = D.free[i - 1]'(by omega) := by
    unfold nxfP
    rw [if_neg g,List.getD_eq_getElem?_getD,hx]
    rfl
   have hw:=dkword_ok hlt
   rw [hn] at hw hlt ⊢
   have hm : (freeV D.free ++ rF)[i - 1]? = some (.int .i64 ((D.free[i - 1]'(by omega) : Nat) : Int)) := by
    unfold freeV
    rw [List.getElem?_append_left (by rw [List.length_map];omega),List.getElem?_map,hx]
    rfl
   generalize D.free[i - 1]'(by omega) = p at *
   have g':¬ (i:Int)=0:=by omega
   have hi2:(i:Int)<=60000:=by have:=ho.few;have:=ho.most;omega
   have e1:((i:Int)-1).toNat=i-1:=by omega
   have e2:(i:Int)-1<(D.free.length:Int):=by omega
   have e3:0<=(i:Int)-1:=by omega
   refine a86 (by simp) ?_
   simp (disch:=first|assumption|omega|(simp only [List.length_append,List.length_cons,List.length_nil];omega)) only [go_sem,hd,g',e1,h2,hm,Nat.zero_add]
   refine hw.use ?_
   simp (disch:=first|assumption|omega|(simp only [List.length_append,List.length_cons,List.length_nil];omega)) only [go_sem]
   exact retC_by (.refl _) (.refl _) ⟨rfl,rfl⟩
def flushP (D:Dsk):Dsk×Int:=
 if (failD D.wl).2≠0 then ({ D with wl:=(failD D.wl).1 },(failD D.wl).2)
 else ({ D with wl:=(failD D.wl).1,pt:=D.pt+1,b:=layP D.b 0 (headP D) },0)
theorem failD_rng {D:Dsk} (ho:D.ok) : -1<=(failD D.wl).1/\(failD D.wl).1<=1000000000:=by
 have:=ho.wl
 unfold failD
 split
 ·exact ⟨by decide,by decide⟩
 ·split<;>dsimp only<;>omega
theorem dkflush_ok (hT:CkT σ) (h:DM σ0 d D σ B cB rB fv F I cI rI) (ho:D.ok) (hpt:D.pt<1000000000) :
  ACalls Tryz.prog 29 [.ptr d 0] σ fun v σ'=>v = .int .i64 (flushP D).2/\∃ rB',DM σ0 d (flushP D).1 σ' B cB rB' fv F I cI rI:=by
 have hf:=dkfailW_ok h ho
 have hwr:=failD_rng ho
 have h1:=h.cells (D' := { D with wl:=(failD D.wl).1 }) rfl rfl rfl
 have ho1:({ D with wl:=(failD D.wl).1 }:Dsk).ok:=⟨ho.len,ho.one,ho.most,ho.free,ho.few,ho.rl,hwr,ho.rd,ho.pt⟩
 have hdn:0≠d:=by
  rintro he
  have:=h.hd
  unfold CkT at hT
  rw [<-he,hT] at this
  cases this
 have hC1:∀ (τ:ASt) r,CkT τ->CkT (τ.set d r):=fun τ r hτ=>by unfold CkT at *;rw [ASt.set_ne hdn];exact hτ
 obtain ⟨q,hq⟩:∃ q,flushP D=q:=⟨_,rfl⟩
 rw [hq]
 unfold flushP at hq
 have hd1:=h1.hd
 unfold Dsk.cs at hd1 hf
 by_cases g:(failD D.wl).2=0
 ·rw [if_neg (by simp [g])] at hq
  subst hq
  rw [g] at hf
  have hpt0:=ho.pt
  have h2:=h1.cells (D' := { D with wl:=(failD D.wl).1,pt:=D.pt+1 }) rfl rfl rfl
  rw [ASt.set_set] at h2
  have ho2:({ D with wl:=(failD D.wl).1,pt:=D.pt+1 }:Dsk).ok:=⟨ho.len,ho.one,ho.most,ho.free,ho.few,ho.rl,hwr,ho.rd,by dsimp only;omega⟩
  have hd2:=h2.hd
  have hCk:=hC1 σ (some (.obj (({ D with wl:=(failD D.wl).1,pt:=D.pt+1 }:Dsk).cs B cB fv I cI))) hT
  have hcnt:=dkcount_ok h2 ho2
  have hnx:=dknext_ok h2 ho2 (i:=D.free.length) (Nat.le_refl _)
  have hwo:=dkword_ok (v:=D.isF.length) (by have:=ho.most;omega)
  have hhl:(headP D).length<=504:=by rw [headP_len];decide
  have hlay:=dklay_ok hCk h2 ho2 (p:=0) ho.one hhl
  have hl:=layP_len (b:=D.b) (p:=0) hhl (by have:=ho.len;have:=ho.one;omega)
  have h3:=h2.lay (b':=layP D.b 0 (headP D)) hl
  have hb1:binS .add [84,65,66,85,76,65,82,49] (le32 D.isF.length)=some (.str (84::65::66::85::76::65::82::49::le32 D.isF.length)):=binS_add (by simp only [List.length_cons,List.length_nil,le32_len];decide)
  have hb2:binS .add (84::65::66::85::76::65::82::49::le32 D.isF.length) (le32 (nxfP D D.free.length))=some (.str (headP D)):=binS_add (by simp only [List.length_append,List.length_cons,List.length_nil,le32_len];decide)
  have hnn:nxfP ({ D with wl:=(failD D.wl).1,pt:=D.pt+1 }:Dsk) D.free.length=nxfP D D.free.length:=rfl
  rw [hnn] at hnx
  have hnl:(D.isF.length:Int)<=60000:=by have:=ho.most;omega
  unfold Dsk.cs at hd2 hcnt hnx hlay h3
  dsimp only at hd2 hcnt hnx hlay h3 hd1 hf
  generalize layP D.b 0 (headP D)=b' at *
  generalize headP D=hh at *
  generalize le32 (nxfP D D.free.length)=nn at *
  generalize le32 D.isF.length=ww at *
  have hF:=h.hF
  clear h1 h2 ho1 ho2 hl hC1
  rcases hF with ⟨x1,x2,_⟩|⟨cF,rF,x2,_⟩
  ·have x0:(0:Int)=(D.free.length:Int):=by rw [x1];rfl
   rw [<-x0] at hnx
   subst x2
   refine a29 (by simp) ?_
   simp (disch:=first|assumption|omega|(simp only [List.length_append,List.length_cons,List.length_nil];omega)) only [go_sem,h.hd]
   refine hf.mono ?_
   rintro v σ' ⟨rfl,rfl⟩
   simp (disch:=first|assumption|omega|(simp only [List.length_append,List.length_cons,List.length_nil];omega)) only [go_sem,ASt.set_set]
   refine hcnt.mono ?_
   rintro v σ' ⟨rfl,rfl⟩
   simp (disch:=first|assumption|omega|(simp only [List.length_append,List.length_cons,List.length_nil];omega)) only [go_sem,ASt.set_set]
   refine hwo.use ?_
   simp (disch:=first|assumption|omega|(simp only [List.length_append,List.length_cons,List.length_nil];omega)) only [go_sem,hb1,ASt.set_set]
   refine hnx.mono ?_
   rintro v σ' ⟨rfl,rfl⟩
   simp (disch:=first|assumption|omega|(simp only [List.length_append,List.length_cons,List.length_nil];omega)) only [go_sem,hb2]
   refine hlay.mono ?_
   rintro v σ' ⟨rfl,rfl⟩
   simp (disch:=first|assumption|omega|(simp only [List.length_append,List.length_cons,List.length_nil];omega)) only [go_sem]
   exact retC_by (.refl _) (.refl _) ⟨rfl,_,h3⟩
  ·subst x2
   refine a29 (by simp) ?_
   simp (disch:=first|assumption|omega|(simp only [List.length_append,List.length_cons,List.length_nil];omega)) only [go_sem,h.hd]
   refine hf.mono ?_
   rintro v σ' ⟨rfl,rfl⟩
   simp (disch:=first|assumption|omega|(simp only [List.length_append,List.length_cons,List.length_nil];omega)) only [go_sem,ASt.set_set]
   refine hcnt.mono ?_
   rintro v σ' ⟨rfl,rfl⟩
   simp (disch:=first|assumption|omega|(simp only [List.length_append,List.length_cons,List.length_nil];omega)) only [go_sem,ASt.set_set]
   refine hwo.use ?_
   simp (disch:=first|assumption|omega|(simp only [List.length_append,List.length_cons,List.length_nil];omega)) only [go_sem,hb1,ASt.set_set]
   refine hnx.mono ?_
   rintro v σ' ⟨rfl,rfl⟩
   simp (disch:=first|assumption|omega|(simp only [List.length_append,List.length_cons,List.length_nil];omega)) only [go_sem,hb2]
   refine hlay.mono ?_
   rintro v σ' ⟨rfl,rfl⟩
   simp (disch:=first|assumption|omega|(simp only [List.length_append,List.length_cons,List.length_nil];omega)) only [go_sem]
   exact retC_by (.refl _) (.refl _) ⟨rfl,_,h3⟩
 ·rw [if_pos g] at hq
  subst hq
  refine a29 (by simp) ?_
  simp (disch:=first|assumption|omega|(simp only [List.length_append,List.length_cons,List.length_nil];omega)) only [go_sem,h.hd]
  refine hf.mono ?_
  rintro v σ' ⟨rfl,rfl⟩
  simp (disch:=first|assumption|omega|(simp only [List.length_append,List.length_cons,List.length_nil];omega)) only [go_sem,g]
  exact retC_by (.refl _) (.refl _) ⟨rfl,_,h1⟩
end
end Go.A
namespace Go.A
open Go.Proofs
/-! 6: tabular/disk.New -/
def c6_11:ACode := .seq (.ops [ oq 2 (.mv (.v .nilp))]) (.seq (.ops [ oq 4 (.mv (.t 0)),oq 5 (.mnx true (.t 4) (.v (.int .i64 2))),oq 6 (.mnx false (.t 5) (.v (.int .i64 60000))),oq 7 (.build [(.sl .full []),(.int .i64 0),(.sl .full []),(.sl .full []),(.int .i64 0),(.int .i64 0),(.int .i64 0),(.int .i64 0)] [(1,1,(.t 6)),(4,1,(.v (.int .i64 (-1)))),(5,1,(.v (.int .i64 (-1))))]),oe 8 (.box (.t 7)),oq 3 (.mv (.t 8))]) (.seq (.ops [ oq 9 (.mv (.t 3)),oe 10 (.mks 5 1 (.int .u8 0) (.v (.int .i64 512)) (.v (.int .i64 512))),oq 11 (.nc (.t 9)),oq 12 (.fa 0 (.t 11)),oz (.store 1 (.t 12) (.t 10))]) (.seq (.ops [ oq 13 (.mv (.t 3)),oe 14 (.mks 4 1 (.bool false) (.v (.int .i64 1)) (.v (.int .i64 1))),oq 15 (.nc (.t 13)),oq 16 (.fa 3 (.t 15)),oz (.store 1 (.t 16) (.t 14))]) (.seq (.ops [ oq 17 (.mv (.t 3)),oe 18 (.call 29 [(.t 17)])]) (.seq (.ops [ oq 19 (.mv (.t 3)),oq 2 (.mv (.t 19))]) .ret)))))
@[go_sem] def c6_11_wp:=wp_of c6_11.eq_1
def c6:AFn:=⟨20,[.t 2],c6_11⟩
theorem c6_ok:compF Tryz.prog Tryz.f6=some c6:=by kernel_rfl
theorem a6 {args:List AV} {σ:ASt} {R:AV->ASt->Prop} (hl:args.length<=20) (h:c6_11.wp Tryz.prog (RetQ [.t 2] R) (init args) σ):ACalls Tryz.prog 6 args σ R:=acalls_of Tryz.func6 c6_ok hl h
/-! 24: (*tabular/disk.Disk).Take -/
def c24_36:ACode := .seq (.seq (.ops [ oq 7 (.mv (.t 0)),oe 8 (.call 75 [(.t 7)]),oq 9 (.bin .eql (.t 8) (.v (.int .i64 0)))]) (.cond (.t 9) (.seq (.ops [ oq 2 (.mv (.v (.int .i64 0))),oq 3 (.mv (.v (.int .i64 6)))]) .ret) .skip)) (.seq (.seq (.ops [ oq 10 (.mv (.t 0)),oq 11 (.mv (.t 0)),oq 12 (.nc (.t 11)),oq 13 (.fa 5 (.t 12)),oe 14 (.call 76 [(.t 10),(.t 13)]),oq 4 (.mv (.t 14))]) (.seq (.ops [ oq 15 (.mv (.t 4)),oq 16 (.bin .neq (.t 15) (.v (.int .i64 0)))]) (.cond (.t 16) (.seq (.ops [ oq 17 (.mv (.t 4)),oq 2 (.mv (.v (.int .i64 0))),oq 3 (.mv (.t 17))]) .ret) .skip))) (.seq (.ops [ oq 18 (.mv (.t 0)),oq 19 (.nc (.t 18)),oq 20 (.fa 7 (.t 19)),oq 21 (.ld none (.t 20)),oq 22 (.bin .add (.t 21) (.v (.int .i64 1))),oq 23 (.nc (.t 18)),oq 24 (.fa 7 (.t 23)),oz (.store 1 (.t 24) (.t 22))]) (.seq (.ops [ oq 25 (.mv (.t 0)),oe 26 (.call 77 [(.t 25)]),oq 5 (.mv (.t 26))]) (.seq (.seq (.ops [ oq 27 (.mv (.t 0)),oq 28 (.nc (.t 27)),oq 29 (.fa 2 (.t 28)),oq 30 (.ld none (.t 29)),oq 31 (.len (.t 30)),oq 6 (.mv (.t 31))]) (.seq (.ops [ oq 32 (.mv (.t 6)),oq 33 (.bin .gtr (.t 32) (.v (.int .i64 0)))]) (.cond (.t 33) (.seq (.ops [ oq 34 (.mv (.t 0)),oq 35 (.nc (.t 34)),oq 36 (.fa 2 (.t 35)),oq 37 (.ld none (.t 36)),oq 38 (.mv (.t 6)),oq 39 (.bin .sub (.t 38) (.v (.int .i64 1))),oq 40 (.ia 1 (.t 37) (.t 39)),oq 41 (.ld none (.t 40)),oq 5 (.mv (.t 41))]) (.seq (.ops [ oq 42 (.mv (.t 0)),oq 43 (.mv (.t 0)),oq 44 (.nc (.t 43)),oq 45 (.fa 2 (.t 44)),oq 46 (.ld none (.t 45)),oq 47 (.mv (.t 6)),oq 48 (.bin .sub (.t 47) (.v (.int .i64 1))),oq 49 (.slto (false,1) (.t 46) (.t 48)),oq 50 (.nc (.t 42)),oq 51 (.fa 2 (.t 50)),oz (.store 1 (.t 51) (.t 49))]) (.ops [ oq 52 (.mv (.t 0)),oq 53 (.nc (.t 52)),oq 54 (.fa 3 (.t 53)),oq 55 (.ld none (.t 54)),oq 56 (.mv (.t 5)),oq 57 (.ia 1 (.t 55) (.t 56)),oz (.store 1 (.t 57) (.v (.bool false)))]))) (.seq (.ops [ oq 58 (.mv (.t 0)),oq 59 (.mv (.t 0)),oq 60 (.nc (.t 59)),oq 61 (.fa 0 (.t 60)),oq 62 (.ld none (.t 61)),oe 63 (.appm 1 1 [(.int .u8 0)] (.t 62) (.v (.int .i64 512))),oq 64 (.nc (.t 58)),oq 65 (.fa 0 (.t 64)),oz (.store 1 (.t 65) (.t 63))]) (.ops [ oq 66 (.mv (.t 0)),oq 67 (.mv (.t 0)),oq 68 (.nc (.t 67)),oq 69 (.fa 3 (.t 68)),oq 70 (.ld none (.t 69)),oq 71 (.bsl 1 [(.v (.bool false))]),oe 72 (.app 4 1 1 [(.bool false)] (.t 70) (.t 71)),oq 73 (.nc (.t 66)),oq 74 (.fa 3 (.t 73)),oz (.store 1 (.t 74) (.t 72))]))))) (.seq (.ops [ oq 75 (.mv (.t 0)),oq 76 (.mv (.t 5)),oe 77 (.call 78 [(.t 75),(.t 76),(.v (.str []))])]) (.seq (.ops [ oq 78 (.mv (.t 5)),oq 2 (.mv (.t 78)),oq 3 (.mv (.v (.int .i64 0)))]) .ret))))))
def c24_37:ACode := .seq (.ops [ oq 2 (.mv (.v (.int .i64 0))),oq 3 (.mv (.v (.int .i64 0)))]) c24_36
@[go_sem] def c24_36_wp:=wp_of c24_36.eq_1
@[go_sem] def c24_37_wp:=wp_of c24_37.eq_1
def c24:AFn:=⟨79,[.t 2,.t 3],c24_37⟩
theorem c24_ok:compF Tryz.prog Tryz.f24=some c24:=by kernel_rfl
theorem a24 {args:List AV} {σ:ASt} {R:AV->ASt->Prop} (hl:args.length<=79) (h:c24_37.wp Tryz.prog (RetQ [.t 2,.t 3] R) (init args) σ):ACalls Tryz.prog 24 args σ R:=acalls_of Tryz.func24 c24_ok hl h
end Go.A
namespace Go.A
open Go.Proofs
def rawP (m:Int):Dsk:=⟨List.replicate 512 0,m,[],[false], -1, -1,0,0⟩
def newP (m:Int):Dsk:=(flushP (rawP m)).1
theorem rawP_ok {m:Int} (h:2<=m/\m<=60000):(rawP m).ok where
 len:=by unfold rawP;rw [List.length_replicate];rfl
 one:=Nat.le_refl 1
 most:=⟨(by have:=h.1;show (1:Int)<=m;omega),h.2⟩
 free:=fun p hp=>by cases hp
 few:=Nat.zero_le _
 rl:=⟨(by decide:(-1:Int) ≤ -1),(by decide:(-1:Int)<=1000000000)⟩
 wl:=⟨(by decide:(-1:Int) ≤ -1),(by decide:(-1:Int)<=1000000000)⟩
 rd:=⟨(by decide:(-9223372036854775808:Int)<=0),(by decide:(0:Int)<=9223372036854775807)⟩
 pt:=⟨(by decide:(-9223372036854775808:Int)<=0),(by decide:(0:Int)<=9223372036854775807)⟩
theorem newP_eq (m:Int):newP m=⟨layP (List.replicate 512 0) 0 (headP (rawP m)),m,[],[false], -1, -1,0,1⟩:=rfl
theorem newP_ok {m:Int} (h:2<=m/\m<=60000):(newP m).ok:=by
 have ho:=rawP_ok h
 have hl:(layP (List.replicate 512 0) 0 (headP (rawP m))).length=512:=by
  rw [layP_len (by rw [headP_len];decide) (by rw [List.length_replicate];decide),List.length_replicate]
 rw [newP_eq]
 exact ⟨hl,ho.one,ho.most,ho.free,ho.few,ho.rl,ho.wl,ho.rd,⟨(by decide:(-9223372036854775808:Int)<=1),(by decide:(1:Int)<=9223372036854775807)⟩⟩
theorem zero_bytes (n:Nat):List.replicate n (AV.int .u8 0)=bytesAV (List.replicate n 0):=by
 unfold bytesAV
 rw [List.map_replicate]
 rfl
theorem dknew_full {σ:ASt} (hT:CkT σ) (pages:Int):ACalls Tryz.prog 6 [.int .i64 pages] σ fun v σ'=>∃ d B cB rB I cI rI,v = .ptr d 0/\DM σ d (newP (min (max pages 2) 60000)) σ' B cB rB (.sl .full []) d I cI rI:=by
 obtain ⟨m,hm⟩:∃ m,min (max pages 2) 60000=m:=⟨_,rfl⟩
 have hmr:2<=m/\m<=60000:=by omega
 have ho:=rawP_ok hmr
 rw [hm]
 refine a6 (by simp) ?_
 simp (disch:=first|assumption|omega|(simp only [List.length_append,List.length_cons,List.length_nil];omega)) only [go_sem,hm]
 refine boxC_by rfl fun d hd=>?_
 have hT1:=fun r=>CkT.set (r:=r) hT hd
 simp (disch:=first|assumption|omega|(simp only [List.length_append,List.length_cons,List.length_nil];omega)) only [go_sem]
 refine mks_own (by decide) (by decide) (by decide) (by decide) fun B hB=>?_
 have hT2:=fun r=>CkT.set (r:=r) (hT1 _) hB
 have e512:((512:Int)).toNat=512:=rfl
 rw [e512,zero_bytes]
 repeat (with_reducible replace hB:=set_none hB;obtain ⟨_,_,hB⟩:=hB)
 have hdB:d≠B:=by assumption
 simp (disch:=first|assumption|omega|(simp only [List.length_append,List.length_cons,List.length_nil];omega)) only [go_sem]
 refine mks_own (by decide) (by decide) (by decide) (by decide) fun I hI=>?_
 have hI':=hI
 repeat (with_reducible replace hI:=set_none hI;obtain ⟨_,_,hI⟩:=hI)
 have hdI:d≠I:=by assumption
 have hBI:B≠I:=by assumption
 have hId:I≠d:=Ne.symm hdI
 have hBd:B≠d:=Ne.symm hdB
 have hIB:I≠B:=Ne.symm hBI
 have hσd:σ d=none:=by assumption
 have hσB:σ B=none:=by assumption
 have hσI:σ I=none:=by assumption
 have e1:((1:Int)).toNat=1:=rfl
 rw [e1]
 have hr1:List.replicate 1 (AV.bool false) = [AV.bool false]:=rfl
 rw [hr1]
 simp (disch:=first|assumption|omega|(simp only [List.length_append,List.length_cons,List.length_nil];omega)) only [go_sem]
 obtain ⟨τ,hτ⟩:∃ τ,τ=(((((σ.set d (some (.obj [.sl .full [],.int .i64 m,.sl .full [],.sl .full [],.int .i64 (-1),.int .i64 (-1),.int .i64 0,.int .i64 0]))).set B (some (.obj (bytesAV (List.replicate 512 0))))).set d (some (.obj [.msl B 0 512 512,.int .i64 m,.sl .full [],.sl .full [],.int .i64 (-1),.int .i64 (-1),.int .i64 0,.int .i64 0]))).set I (some (.obj [.bool false]))).set d (some (.obj [.msl B 0 512 512,.int .i64 m,.sl .full [],.msl I 0 1 1,.int .i64 (-1),.int .i64 (-1),.int .i64 0,.int .i64 0]))):=⟨_,rfl⟩
 rw [<-hτ]
 have hDM:DM σ d (rawP m) τ B 512 [] (.sl .full []) d I 1 []:=by
  refine ⟨?_,?_,?_,?_,?_,.inl ⟨rfl,rfl,rfl⟩,hdB,hdI,hBI,hσd,hσB,hσI,?_⟩
  ·rw [hτ]
   unfold Dsk.cs rawP
   rw [List.length_replicate]
   exact ASt.set_same _ _ _
  ·rw [hτ,List.append_nil]
   simp (disch:=first|assumption|omega|(simp only [List.length_append,List.length_cons,List.length_nil];omega)) only [go_sem]
   rfl
  ·rw [hτ]
   simp (disch:=first|assumption|omega|(simp only [List.length_append,List.length_cons,List.length_nil];omega)) only [go_sem]
   rfl
  ·unfold rawP;rw [List.length_replicate];exact ⟨Nat.le_refl _,rfl⟩
  ·exact ⟨Nat.le_refl _,rfl⟩
  ·intro x h1 h2 h3 h4
   left
   rw [hτ,ASt.set_ne h1,ASt.set_ne h3,ASt.set_ne h1,ASt.set_ne h2,ASt.set_ne h1]
 have hTτ:CkT τ:=by
  unfold CkT
  exact hDM.at hT
 have hfl:=dkflush_ok hTτ hDM ho (by decide:(0:Int)<1000000000)
 refine hfl.mono ?_
 rintro v σ' ⟨rfl,rB',h2⟩
 simp (disch:=first|assumption|omega|(simp only [List.length_append,List.length_cons,List.length_nil];omega)) only [go_sem]
 exact retC_by (.refl _) (.refl _) ⟨d,B,512,rB',I,1,[],rfl,h2⟩
theorem dknew_ok {σ:ASt} (hT:CkT σ) (pages:Int):ACalls Tryz.prog 6 [.int .i64 pages] σ fun v σ'=>∃ d,v = .ptr d 0/\DiskAt σ d (newP (min (max pages 2) 60000)) σ':=
 (dknew_full hT pages).mono fun v σ' ⟨d,B,cB,rB,I,cI,rI,hv,h⟩=>⟨d,hv,B,cB,rB,_,_,I,cI,rI,h⟩
section
variable {σ0 σ:ASt} {d B cB F I cI:Nat} {D:Dsk} {rB rI:List AV} {fv:AV}
theorem DM.low (h:DM σ0 d D σ B cB rB fv F I cI rI) {x:Nat} (hx:σ x=none):x≠d/\x≠B/\x≠I/\x≠F/\σ0 x=none:=by
 have h1:x≠d:=by rintro rfl;rw [h.hd] at hx;cases hx
 have h2:x≠B:=by rintro rfl;rw [h.hB] at hx;cases hx
 have h3:x≠I:=by rintro rfl;rw [h.hI] at hx;cases hx
 have h4:x≠F:=by
  rcases h.hF with ⟨_,_,rfl⟩|⟨cF,rF,_,hm,_⟩
  ·exact h1
  ·rintro rfl;rw [hm] at hx;cases hx
 refine ⟨h1,h2,h3,h4,?_⟩
 rcases h.out x h1 h2 h3 h4 with h5|h5
 ·rw [h5,hx]
 ·exact h5
theorem DM.growB (h:DM σ0 d D σ B cB rB fv F I cI rI) (hlen:D.b.length<=40000000) {K:AV->ASt->Prop}
  (hK:∀ B' cB' rB' τ,τ d=some (.obj (D.cs B cB fv I cI))->DM σ0 d { D with b:=D.b++List.replicate 512 0 } (τ.set d (some (.obj (({ D with b:=D.b++List.replicate 512 0 }:Dsk).cs B' cB' fv I cI)))) B' cB' rB' fv F I cI rI->K (.msl B' 0 (D.b.length+512) cB') τ) :
  appmC 1 1 [.int .u8 0] (.msl B 0 D.b.length cB) (.int .i64 512) σ K:=by
 have hB:=h.hB
 obtain ⟨hc1,hc2⟩:=h.cB
 have hz:(List.replicate 512 [AV.int .u8 0]).flatten=bytesAV (List.replicate 512 0):=by rw [List.flatten_replicate_singleton];exact zero_bytes 512
 have hzl:(bytesAV (List.replicate 512 0)).length=512:=by rw [kbytes_len,List.length_replicate]
 have hml:(bytesAV D.b++rB).length=cB:=by rw [List.length_append,kbytes_len];omega
 have hnl:(D.b++List.replicate 512 0).length=D.b.length+512:=by rw [List.length_append,List.length_replicate]
 have hF:=h.hF
 refine appmC_by (m:=512) hB rfl (by omega) (by omega) (by omega) (fun hroom=>⟨by omega,?_⟩) (fun hgrow b' c' hb' hc'=>?_)
 ·have e:splice (bytesAV D.b++rB) (0+D.b.length*1) (512*1) (List.replicate 512 [AV.int .u8 0]).flatten=bytesAV (D.b++List.replicate 512 0)++rB.drop 512:=by
   rw [hz,Nat.zero_add,Nat.mul_one,Nat.mul_one]
   unfold splice
   rw [kbytes_app]
   have a1:(bytesAV D.b++rB).take D.b.length=bytesAV D.b:=by rw [<-kbytes_len D.b,List.take_left]
   have a2:(bytesAV D.b++rB).drop (D.b.length+512)=rB.drop 512:=by rw [<-List.drop_drop,← kbytes_len D.b,List.drop_left]
   rw [a1,a2]
  rw [e]
  refine hK B cB (rB.drop 512) _ (by rw [ASt.set_ne h.n1];exact h.hd) ?_
  refine ⟨ASt.set_same _ _ _,?_,?_,?_,h.cI,?_,h.n1,h.n2,h.n3,h.z1,h.z2,h.z3,?_⟩
  ·rw [ASt.set_ne (Ne.symm h.n1),ASt.set_same]
  ·rw [ASt.set_ne (Ne.symm h.n2),ASt.set_ne (Ne.symm h.n3)];exact h.hI
  ·dsimp only
   rw [hnl,List.length_drop]
   clear hF
   omega
  ·rcases hF with ⟨x1,x2,x3⟩|⟨cF,rF,x1,x2,x3,x4,x5,x6,x7,x8⟩
   ·exact .inl ⟨x1,x2,x3⟩
   ·exact .inr ⟨cF,rF,x1,by rw [ASt.set_ne x5,ASt.set_ne x6];exact x2,x3,x4,x5,x6,x7,x8⟩
  ·intro x h1 h2 h3 h4
   rw [ASt.set_ne h1,ASt.set_ne h2]
   exact h.out x h1 h2 h3 h4
 ·obtain ⟨f1,f2,f3,f4,f5⟩:=h.low hb'
  have e:ownRow 1 [AV.int .u8 0] (((bytesAV D.b++rB).drop 0).take (D.b.length*1)++(List.replicate 512 [AV.int .u8 0]).flatten) (D.b.length+512) c'=bytesAV (D.b++List.replicate 512 0)++ownRow 1 [AV.int .u8 0] [] (D.b.length+512) c':=by
   unfold ownRow
   rw [hz,List.drop_zero,Nat.mul_one,kbytes_app,← kbytes_len D.b,List.take_left,List.nil_append]
  have hol:(ownRow 1 [AV.int .u8 0] [] (D.b.length+512) c').length=c'-(D.b.length+512):=by
   unfold ownRow
   simp
  rw [e]
  refine hK b' c' (ownRow 1 [AV.int .u8 0] [] (D.b.length+512) c') _ (by rw [ASt.set_ne (Ne.symm f1)];exact h.hd) ?_
  refine ⟨ASt.set_same _ _ _,?_,?_,?_,h.cI,?_,Ne.symm f1,h.n2,f3,h.z1,f5,h.z3,?_⟩
  ·rw [ASt.set_ne f1,ASt.set_same]
  ·rw [ASt.set_ne (Ne.symm h.n2),ASt.set_ne (Ne.symm f3)];exact h.hI
  ·dsimp only
   rw [hnl,hol]
   clear hF
   omega
  ·rcases hF with ⟨x1,x2,x3⟩|⟨cF,rF,x1,x2,x3,x4,x5,x6,x7,x8⟩
   ·exact .inl ⟨x1,x2,x3⟩
   ·exact .inr ⟨cF,rF,x1,by rw [ASt.set_ne x5,ASt.set_ne (Ne.symm f4)];exact x2,x3,x4,x5,Ne.symm f4,x7,x8⟩
  ·intro x h1 h2 h3 h4
   rw [ASt.set_ne h1,ASt.set_ne h2]
   by_cases hxB:x=B
   ·rw [hxB];exact .inr h.z2
   ·exact h.out x h1 hxB h3 h4
theorem DM.growI (h:DM σ0 d D σ B cB rB fv F I cI rI) (hlen:D.isF.length<=100000) {K:AV->ASt->Prop} {e:TypeId}
  (hK:∀ I' cI' rI' τ,τ d=some (.obj (D.cs B cB fv I cI))->DM σ0 d { D with isF:=D.isF ++ [false] } (τ.set d (some (.obj (({ D with isF:=D.isF ++ [false] }:Dsk).cs B cB fv I' cI')))) B cB rB fv F I' cI' rI'->K (.msl I' 0 (D.isF.length+1) cI') τ) :
  appC e 1 1 [.bool false] (.msl I 0 D.isF.length cI) (.sl .full [.bool false]) σ K:=by
 have hI:=h.hI
 obtain ⟨hc1,hc2⟩:=h.cI
 have hml:(D.isF.map AV.bool++rI).length=cI:=by rw [List.length_append,List.length_map];omega
 have hnl:(D.isF ++ [false]).length=D.isF.length+1:=by rw [List.length_append];rfl
 have hF:=h.hF
 have hfl : [AV.bool false].flatMap AV.cells = [AV.bool false]:=rfl
 have h1l : [AV.bool false].length=1:=rfl
 rw [appC_msl,hI]
 refine appM_by rfl rfl (by rw [h1l];omega) (by rw [h1l];omega) (by omega) (fun hroom=>⟨by rw [h1l] at hroom ⊢;omega,?_⟩) (fun hgrow b' c' hb' hc'=>?_)
 ·rw [h1l] at hroom
  have e:splice (D.isF.map AV.bool++rI) (0+D.isF.length*1) ([AV.bool false].length*1) ([AV.bool false].flatMap AV.cells)=(D.isF ++ [false]).map AV.bool++rI.drop 1:=by
   rw [hfl,h1l,Nat.zero_add,Nat.mul_one,Nat.mul_one]
   unfold splice
   have hll:(D.isF.map AV.bool).length=D.isF.length:=List.length_map _
   have a1:(D.isF.map AV.bool++rI).take D.isF.length=D.isF.map AV.bool:=by rw [<-hll,List.take_left]
   have a2:(D.isF.map AV.bool++rI).drop (D.isF.length+1)=rI.drop 1:=by rw [<-List.drop_drop,← hll,List.drop_left]
   rw [a1,a2,List.map_append]
   rfl
  rw [e]
  refine hK I cI (rI.drop 1) _ (by rw [ASt.set_ne h.n2];exact h.hd) ?_
  refine ⟨ASt.set_same _ _ _,?_,?_,h.cB,?_,?_,h.n1,h.n2,h.n3,h.z1,h.z2,h.z3,?_⟩
  ·rw [ASt.set_ne (Ne.symm h.n1),ASt.set_ne h.n3];exact h.hB
  ·rw [ASt.set_ne (Ne.symm h.n2),ASt.set_same]
  ·dsimp only
   rw [hnl,List.length_drop]
   clear hF
   omega
  ·rcases hF with ⟨x1,x2,x3⟩|⟨cF,rF,x1,x2,x3,x4,x5,x6,x7,x8⟩
   ·exact .inl ⟨x1,x2,x3⟩
   ·exact .inr ⟨cF,rF,x1,by rw [ASt.set_ne x5,ASt.set_ne x7];exact x2,x3,x4,x5,x6,x7,x8⟩
  ·intro x h1 h2 h3 h4
   rw [ASt.set_ne h1,ASt.set_ne h3]
   exact h.out x h1 h2 h3 h4
 ·rw [h1l] at hgrow hc'
  obtain ⟨f1,f2,f3,f4,f5⟩:=h.low hb'
  have e:ownRow 1 [AV.bool false] (((D.isF.map AV.bool++rI).drop 0).take (D.isF.length*1) ++ [AV.bool false].flatMap AV.cells) (D.isF.length + [AV.bool false].length) c'=(D.isF ++ [false]).map AV.bool++ownRow 1 [AV.bool false] [] (D.isF.length+1) c':=by
   unfold ownRow
   have hll:(D.isF.map AV.bool).length=D.isF.length:=List.length_map _
   rw [hfl,h1l,List.drop_zero,Nat.mul_one,List.map_append,← hll,List.take_left,List.nil_append]
   rfl
  have hol:(ownRow 1 [AV.bool false] [] (D.isF.length+1) c').length=c'-(D.isF.length+1):=by
   unfold ownRow
   simp
  rw [e]
  refine hK b' c' (ownRow 1 [AV.bool false] [] (D.isF.length+1) c') _ (by rw [ASt.set_ne (Ne.symm f1)];exact h.hd) ?_
  refine ⟨ASt.set_same _ _ _,?_,?_,h.cB,?_,?_,h.n1,Ne.symm f1,Ne.symm f2,h.z1,h.z2,f5,?_⟩
  ·rw [ASt.set_ne (Ne.symm h.n1),ASt.set_ne (Ne.symm f2)];exact h.hB
  ·rw [ASt.set_ne f1,ASt.set_same]
  ·dsimp only
   rw [hnl,hol]
   clear hF
   omega
  ·rcases hF with ⟨x1,x2,x3⟩|⟨cF,rF,x1,x2,x3,x4,x5,x6,x7,x8⟩
   ·exact .inl ⟨x1,x2,x3⟩
   ·exact .inr ⟨cF,rF,x1,by rw [ASt.set_ne x5,ASt.set_ne (Ne.symm f4)];exact x2,x3,x4,x5,x6,Ne.symm f4,x8⟩
  ·intro x h1 h2 h3 h4
   rw [ASt.set_ne h1,ASt.set_ne h3]
   by_cases hxI:x=I
   ·rw [hxI];exact .inr h.z3
   ·exact h.out x h1 h2 hxI h4
def tookP (D:Dsk):Dsk := { D with b:=layP (D.b++List.replicate 512 0) D.isF.length [],isF:=D.isF ++ [false],pt:=D.pt+1 }
set_option maxHeartbeats 1000000 in
theorem dktake_new (hT:CkT σ) (h:DM σ0 d D σ B cB rB fv F I cI rI) (hck:CkT σ0) (ho:D.ok) (hfree:D.free = []) (hroom:(D.isF.length:Int)<D.most) (hwl:D.wl = -1) (hpt:D.pt<1000000000) :
  ACalls Tryz.prog 24 [.ptr d 0] σ fun v σ'=>v = .tuple [.int .i64 D.isF.length,.int .i64 0]/\DiskAt σ0 d (tookP D) σ':=by
 have hm:=ho.most
 have hbl:=ho.len
 have hpt0:=ho.pt
 have hro:=dkroom_ok h ho
 have hf:=dkfailW_ok h ho
 have hfd:failD D.wl=(-1,0):=by rw [hwl];rfl
 have hDw:({ D with wl := -1 }:Dsk)=D:=by rw [<-hwl]
 rw [hfd] at hf
 dsimp only at hf
 rw [hDw] at hf
 have hset:σ.set d (some (.obj (D.cs B cB fv I cI)))=σ:=by
  funext x
  by_cases hx:x=d
  ·rw [hx,ASt.set_same,h.hd]
  ·rw [ASt.set_ne hx]
 rw [hset] at hf
 obtain ⟨D1,hD1⟩:∃ D1:Dsk,D1 = { D with pt:=D.pt+1 }:=⟨_,rfl⟩
 have h1:=h.cells (D':=D1) (by rw [hD1]) (by rw [hD1]) (by rw [hD1])
 have ho1:D1.ok:=by
  rw [hD1]
  exact ⟨ho.len,ho.one,ho.most,ho.free,ho.few,ho.rl,ho.wl,ho.rd,⟨by show -9223372036854775808<=D.pt+1;omega,by show D.pt+1<=9223372036854775807;omega⟩⟩
 have hcnt:=dkcount_ok h1 ho1
 have hd:=h.hd
 have hd1:=h1.hd
 have hDc:D1.cs B cB fv I cI = [.msl B 0 D.b.length cB,.int .i64 D.most,fv,.msl I 0 D.isF.length cI,.int .i64 D.rl,.int .i64 D.wl,.int .i64 D.rd,.int .i64 (D.pt+1)]:=by rw [hD1];rfl
 rw [hfree,List.length_nil] at hro
 have e0:¬ (D.most-(D.isF.length:Int)+((0:Nat):Int))=0:=by omega
 have hi1:D1.isF=D.isF:=by rw [hD1]
 have hb1:D1.b=D.b:=by rw [hD1]
 have hfl:lenC fv=some (.int .i64 0):=by
  rcases h.hF with ⟨_,x,_⟩|⟨cF,rF,x1,_⟩
  ·rw [x];rfl
  ·rw [x1,hfree];rfl
 obtain ⟨τ1,hτ1⟩:∃ τ,τ=σ.set d (some (.obj (D1.cs B cB fv I cI))):=⟨_,rfl⟩
 rw [<-hτ1] at h1 hcnt hd1
 have hds:σ.set d (some (.obj [.msl B 0 D.b.length cB,.int .i64 D.most,fv,.msl I 0 D.isF.length cI,.int .i64 D.rl,.int .i64 D.wl,.int .i64 D.rd,.int .i64 (D.pt+1)]))=τ1:=by rw [hτ1,hDc]
 rw [hDc] at hd1
 rw [hi1] at hcnt
 unfold Dsk.cs at hd
 refine a24 (by simp) ?_
 simp (disch:=first|assumption|omega|(simp only [List.length_append,List.length_cons,List.length_nil];omega)) only [go_sem]
 refine hro.mono ?_
 rintro v σ' ⟨rfl,rfl⟩
 simp (disch:=first|assumption|omega|(simp only [List.length_append,List.length_cons,List.length_nil];omega)) only [go_sem,e0,hd]
 refine hf.mono ?_
 rintro v σ'' ⟨rfl,rfl⟩
 simp (disch:=first|assumption|omega|(simp only [List.length_append,List.length_cons,List.length_nil];omega)) only [go_sem,hd,hds]
 refine hcnt.mono ?_
 rintro v σ'' ⟨rfl,rfl⟩
 simp (disch:=first|assumption|omega|(simp only [List.length_append,List.length_cons,List.length_nil];omega)) only [go_sem,hd1,hfl]
 have hlb:D.b.length=D1.b.length:=by rw [hb1]
 rw [hlb]
 refine h1.growB (by rw [hb1];omega) fun B' cB' rB' τ2 hτd h2=>?_
 rw [hDc,hlb] at hτd
 obtain ⟨D2,hD2⟩:∃ D2:Dsk,D2 = { D1 with b:=D1.b++List.replicate 512 0 }:=⟨_,rfl⟩
 rw [<-hD2] at h2
 have hDc2:D2.cs B' cB' fv I cI = [.msl B' 0 (D1.b.length+512) cB',.int .i64 D.most,fv,.msl I 0 D.isF.length cI,.int .i64 D.rl,.int .i64 D.wl,.int .i64 D.rd,.int .i64 (D.pt+1)]:=by
  have e:(D1.b++List.replicate 512 0).length=D1.b.length+512:=by rw [List.length_append,List.length_replicate]
  rw [hD2]
  unfold Dsk.cs
  dsimp only
  rw [e,hD1]
 obtain ⟨τ3,hτ3⟩:∃ τ,τ=τ2.set d (some (.obj (D2.cs B' cB' fv I cI))):=⟨_,rfl⟩
 rw [<-hτ3] at h2
 rw [hDc2] at hτ3
 have hd3:=h2.hd
 rw [hDc2] at hd3
 have hi2:D2.isF=D.isF:=by rw [hD2,hD1]
 simp (disch:=first|assumption|omega|(simp only [List.length_append,List.length_cons,List.length_nil];omega)) only [go_sem,hτd,ASt.set_set]
 rw [<-hτ3]
 have hg2:=fun (K:AV->ASt->Prop) (e:TypeId)=>h2.growI (K:=K) (e:=e) (by rw [hi2];omega)
 rw [hi2] at hg2
 refine hg2 _ (0:TypeId) fun I' cI' rI' τ4 hτd4 h4=>?_
 rw [hDc2] at hτd4
 obtain ⟨D3,hD3⟩:∃ D3:Dsk,D3 = { D2 with isF:=D.isF ++ [false] }:=⟨_,rfl⟩
 rw [<-hD3] at h4
 have hDc3:D3.cs B' cB' fv I' cI' = [.msl B' 0 (D1.b.length+512) cB',.int .i64 D.most,fv,.msl I' 0 (D.isF.length+1) cI',.int .i64 D.rl,.int .i64 D.wl,.int .i64 D.rd,.int .i64 (D.pt+1)]:=by
  have e:(D1.b++List.replicate 512 0).length=D1.b.length+512:=by rw [List.length_append,List.length_replicate]
  have e2:(D.isF ++ [false]).length=D.isF.length+1:=by rw [List.length_append];rfl
  rw [hD3]
  unfold Dsk.cs
  dsimp only
  rw [e2,hD2]
  dsimp only
  rw [e,hD1]
 obtain ⟨τ5,hτ5⟩:∃ τ,τ=τ4.set d (some (.obj (D3.cs B' cB' fv I' cI'))):=⟨_,rfl⟩
 rw [<-hτ5] at h4
 rw [hDc3] at hτ5
 have hck5:CkT τ5:=h4.at hck
 have e2:(D.isF ++ [false]).length=D.isF.length+1:=by rw [List.length_append];rfl
 have hi3:D3.isF=D.isF ++ [false]:=by rw [hD3]
 have hb3:D3.b=D.b++List.replicate 512 0:=by rw [hD3,hD2,hD1]
 have ho3:D3.ok:=by
  refine ⟨?_,?_,?_,?_,?_,?_,?_,?_,?_⟩
  ·rw [hb3,hi3,e2,List.length_append,List.length_replicate];omega
  ·rw [hi3,e2];omega
  ·rw [hi3,e2,hD3,hD2,hD1];show ((D.isF.length+1:Nat):Int)<=D.most/\D.most<=60000;omega
  ·rw [hD3,hD2,hD1]
   intro p hp
   have hp:p∈D.free:=hp
   rw [hfree] at hp
   cases hp
  ·rw [hi3,e2,hD3,hD2,hD1];show D.free.length<=_;rw [hfree];exact Nat.zero_le _
  ·rw [hD3,hD2,hD1];exact ho.rl
  ·rw [hD3,hD2,hD1];exact ho.wl
  ·rw [hD3,hD2,hD1];exact ho.rd
  ·rw [hD3,hD2,hD1];exact ⟨by show -9223372036854775808<=D.pt+1;omega,by show D.pt+1<=9223372036854775807;omega⟩
 have hlay:=dklay_ok hck5 h4 ho3 (p:=D.isF.length) (by rw [hi3,e2];omega) (s := []) (by decide)
 have h6:=h4.lay (b':=layP D3.b D.isF.length []) (layP_len (by decide) (by rw [hb3,List.length_append,List.length_replicate];omega))
 have hfin:({ D3 with b:=layP D3.b D.isF.length [] }:Dsk)=tookP D:=by rw [hb3,hD3,hD2,hD1];rfl
 rw [hfin] at h6
 simp (disch:=first|assumption|omega|(simp only [List.length_append,List.length_cons,List.length_nil];omega)) only [go_sem,hτd4,ASt.set_set]
 rw [<-hτ5]
 refine hlay.mono ?_
 rintro v σ6 ⟨rfl,rfl⟩
 simp (disch:=first|assumption|omega|(simp only [List.length_append,List.length_cons,List.length_nil];omega)) only [go_sem]
 exact retC_by (.refl _) (.refl _) ⟨rfl,B',cB',rB',fv,F,I',cI',rI',h6⟩
end
end Go.A
namespace Go.A
open Go.Proofs
def padB (s:List UInt8):List UInt8:=s++List.replicate (504-s.length) 0
theorem padB_len {s:List UInt8} (h:s.length<=504):(padB s).length=504:=by
 unfold padB
 rw [List.length_append,List.length_replicate]
 omega
theorem padB_full {s:List UInt8} (h:s.length=504):padB s=s:=by
 unfold padB
 rw [h,Nat.sub_self,List.replicate_zero,List.append_nil]
def pgAt (b:List UInt8) (p:Nat):List UInt8:=(b.drop (p*512)).take 512
def lookP (b:List UInt8) (p:Nat):Option (List UInt8):=
 if of32 ((pgAt b p).take 4)=ckN ((pgAt b p).drop 4)/\of32 (((pgAt b p).drop 4).take 4)=p then some ((pgAt b p).drop 8) else none
theorem bodyB_pad (p:Nat) (s:List UInt8):bodyB p s=le32 p++padB s:=by unfold bodyB padB;rw [List.append_assoc]
theorem le_take (v:Nat) (r:List UInt8):(le32 v++r).take 4=le32 v:=rfl
theorem le_drop (v:Nat) (r:List UInt8):(le32 v++r).drop 4=r:=rfl
theorem pageB_eq (p:Nat) (s:List UInt8):pageB p s=le32 (ckN (bodyB p s))++(le32 p++padB s):=by unfold pageB;rw [bodyB_pad]
theorem look_page {b:List UInt8} {p:Nat} {s:List UInt8} (h:pgAt b p=pageB p s) (hp:p<4294967296):lookP b p=some (padB s):=by
 unfold lookP
 rw [h,pageB_eq]
 have e1:(le32 (ckN (bodyB p s))++(le32 p++padB s)).take 4=le32 (ckN (bodyB p s)):=le_take _ _
 have e2:(le32 (ckN (bodyB p s))++(le32 p++padB s)).drop 4=le32 p++padB s:=le_drop _ _
 have e3:(le32 p++padB s).take 4=le32 p:=le_take _ _
 have e4:(le32 (ckN (bodyB p s))++(le32 p++padB s)).drop 8=padB s:=by
  rw [show 8=4+4 from rfl,← List.drop_drop,e2]
  exact List.drop_left (l₁:=le32 p)
 rw [e1,e2,e3,e4,of_le32 (ckN_lt _),of_le32 hp,bodyB_pad,if_pos ⟨rfl,rfl⟩]
def imgF:Nat->List (List UInt8)->List UInt8
 | _,[] => []
 | k,s::l=>pageB k s++imgF (k+1) l
theorem imgF_len:∀ {l:List (List UInt8)} {k:Nat},(∀ s∈l,s.length<=504)->(imgF k l).length=l.length*512
 | [],_,_=>rfl
 | s::l,k,h=>by
   show (pageB k s++imgF (k+1) l).length=(l.length+1)*512
   rw [List.length_append,pageB_len (h s List.mem_cons_self),imgF_len fun x hx=>h x (List.mem_cons_of_mem _ hx)]
   omega
theorem imgF_app:∀ (l m:List (List UInt8)) (k:Nat),imgF k (l++m)=imgF k l++imgF (k+l.length) m
 | [],m,k=>rfl
 | s::l,m,k=>by
   show pageB k s++imgF (k+1) (l++m)=pageB k s++imgF (k+1) l++imgF (k+(l.length+1)) m
   rw [imgF_app l m (k+1),List.append_assoc]
   congr 3
   omega
theorem img_split {l:List (List UInt8)} {p:Nat} {s:List UInt8} (h:l[p]? = some s):imgF 0 l=imgF 0 (l.take p)++(pageB p s++imgF (p+1) (l.drop (p+1))):=by
 obtain ⟨hp,rfl⟩:=List.getElem?_eq_some_iff.1 h
 have e:l=l.take p++l[p]::l.drop (p+1):=by rw [List.getElem_cons_drop,List.take_append_drop]
 conv=>lhs;rw [e]
 rw [imgF_app,List.length_take,Nat.min_eq_left (by omega),Nat.zero_add]
 rfl
theorem img_head_len {l:List (List UInt8)} {p:Nat} (hp:p<=l.length) (h:∀ s∈l,s.length<=504):(imgF 0 (l.take p)).length=p*512:=by
 rw [imgF_len fun s hs=>h s (List.mem_of_mem_take hs),List.length_take,Nat.min_eq_left hp]
theorem pg_img {l:List (List UInt8)} (hl:∀ s∈l,s.length<=504) {p:Nat} {s:List UInt8} (h:l[p]? = some s):pgAt (imgF 0 l) p=pageB p s:=by
 have hp:p<l.length:=(List.getElem?_eq_some_iff.1 h).1
 have hs:s.length<=504:=hl s (List.mem_of_getElem? h)
 unfold pgAt
 rw [img_split h,← img_head_len (by omega) hl,List.drop_left,← pageB_len (p:=p) hs,List.take_left]
theorem lay_img {l:List (List UInt8)} (hl:∀ s∈l,s.length<=504) {p:Nat} (hp:p<l.length) (s:List UInt8):layP (imgF 0 l) p s=imgF 0 (l.set p s):=by
 have h:l[p]? = some l[p]:=List.getElem?_eq_getElem hp
 have h2:(l.set p s)[p]? = some s:=by rw [List.getElem?_set_self hp]
 have hs:l[p].length<=504:=hl _ (List.getElem_mem hp)
 unfold layP
 have e1:=img_split h
 have e2:=img_split h2
 rw [List.take_set_of_le (Nat.le_refl p),List.drop_set_of_lt (by omega)] at e2
 have hh:=img_head_len (by omega:p<=l.length) hl
 have e0:(imgF 0 (l.take p)++(pageB p l[p]++imgF (p+1) (l.drop (p+1)))).take (p*512)=imgF 0 (l.take p):=by rw [<-hh,List.take_left]
 rw [e2,e1,e0]
 have:(p+1)*512=(imgF 0 (l.take p)++pageB p l[p]).length:=by rw [List.length_append,hh,pageB_len hs];omega
 rw [this,← List.append_assoc (imgF 0 (l.take p)),List.drop_left,List.append_assoc]
theorem lay_new {l:List (List UInt8)} (hl:∀ s∈l,s.length<=504) (s:List UInt8):layP (imgF 0 l++List.replicate 512 0) l.length s=imgF 0 (l ++ [s]):=by
 have hh:=imgF_len (k:=0) hl
 unfold layP
 rw [imgF_app,Nat.zero_add,← hh,List.take_left]
 have e:(imgF 0 l++List.replicate 512 0).drop ((l.length+1)*512) = []:=List.drop_eq_nil_of_le (by rw [List.length_append,List.length_replicate];omega)
 rw [e,List.append_nil]
 show _=imgF 0 l++(pageB l.length s ++ [])
 rw [List.append_nil]
variable {b:List UInt8} {at' turn:Nat}
end Go.A
namespace Go.A
open Go.Proofs
structure Ref where
 row:Int
 col:Int
 absRow:Bool
 absCol:Bool
 deriving DecidableEq,Inhabited
end Go.A
namespace Go.A
open Go.Proofs
/-! 11: tabular/tabularlaw01.Cut -/
def c11_9:ACode := .seq (.ops [ oq 4 (.mv (.v (.str [])))]) (.seq (.seq (.ops [ oq 5 (.mv (.t 0)),oq 6 (.lenS (.t 5)),oq 7 (.mv (.t 1)),oq 8 (.bin .gtr (.t 6) (.t 7))]) (.cond (.t 8) (.seq (.ops [ oq 9 (.mv (.t 0)),oq 10 (.mv (.t 1)),oq 11 (.slto (true,0) (.t 9) (.t 10)),oq 4 (.mv (.t 11))]) .ret) .skip)) (.seq (.ops [ oq 12 (.mv (.t 0)),oq 4 (.mv (.t 12))]) .ret))
@[go_sem] def c11_9_wp:=wp_of c11_9.eq_1
def c11:AFn:=⟨13,[.t 4],c11_9⟩
theorem c11_ok:compF Tryz.prog Tryz.f11=some c11:=by kernel_rfl
theorem a11 {args:List AV} {σ:ASt} {R:AV->ASt->Prop} (hl:args.length<=13) (h:c11_9.wp Tryz.prog (RetQ [.t 4] R) (init args) σ):ACalls Tryz.prog 11 args σ R:=acalls_of Tryz.func11 c11_ok hl h
end Go.A
namespace Go.A
open Go.Proofs
/-! 100: (*tabular/disk.Disk).Has -/
def c100_3:ACode := .seq (.ops [ oq 4 (.mv (.v (.bool false)))]) (.seq (.ops [ oq 5 (.mv (.t 1)),oq 6 (.bin .geq (.t 5) (.v (.int .i64 1))),oq 7 (.mv (.t 6)),⟨some 8,some (7,true),.q (.mv (.t 1)),[]⟩,⟨some 9,some (7,true),.q (.mv (.t 0)),[]⟩,⟨some 10,some (7,true),.e (.call 77 [(.t 9)]),[]⟩,⟨some 11,some (7,true),.q (.bin .lss (.t 8) (.t 10)),[]⟩,oq 12 (.pick (.t 7) (.t 11) (.v (.bool false))),oq 13 (.mv (.t 12)),⟨some 14,some (13,true),.q (.mv (.t 0)),[]⟩,⟨some 15,some (13,true),.q (.nc (.t 14)),[]⟩,⟨some 16,some (13,true),.q (.fa 3 (.t 15)),[]⟩,⟨some 17,some (13,true),.q (.ld none (.t 16)),[]⟩,⟨some 18,some (13,true),.q (.mv (.t 1)),[]⟩,⟨some 19,some (13,true),.q (.ia 1 (.t 17) (.t 18)),[]⟩,⟨some 20,some (13,true),.q (.ld none (.t 19)),[]⟩,⟨some 21,some (13,true),.q (.un .not (.t 20)),[]⟩,oq 22 (.pick (.t 13) (.t 21) (.v (.bool false))),oq 4 (.mv (.t 22))]) .ret)
@[go_sem] def c100_3_wp:=wp_of c100_3.eq_1
def c100:AFn:=⟨23,[.t 4],c100_3⟩
theorem c100_ok:compF Tryz.prog Tryz.f100=some c100:=by kernel_rfl
theorem a100 {args:List AV} {σ:ASt} {R:AV->ASt->Prop} (hl:args.length<=23) (h:c100_3.wp Tryz.prog (RetQ [.t 4] R) (init args) σ):ACalls Tryz.prog 100 args σ R:=acalls_of Tryz.func100 c100_ok hl h
/-! 139: (*tabular/disk.Disk).Read -/
def c139_27:ACode := .seq (.ops [ oq 4 (.mv (.v (.str []))),oq 5 (.mv (.v (.int .i64 0)))]) (.seq (.seq (.ops [ oq 9 (.mv (.t 0)),oq 10 (.mv (.t 1)),oe 11 (.call 100 [(.t 9),(.t 10)]),oq 12 (.un .not (.t 11))]) (.cond (.t 12) (.seq (.ops [ oq 4 (.mv (.v (.str []))),oq 5 (.mv (.v (.int .i64 4)))]) .ret) .skip)) (.seq (.seq (.ops [ oq 13 (.mv (.t 0)),oq 14 (.mv (.t 0)),oq 15 (.nc (.t 14)),oq 16 (.fa 4 (.t 15)),oe 17 (.call 76 [(.t 13),(.t 16)]),oq 6 (.mv (.t 17))]) (.seq (.ops [ oq 18 (.mv (.t 6)),oq 19 (.bin .neq (.t 18) (.v (.int .i64 0)))]) (.cond (.t 19) (.seq (.ops [ oq 20 (.mv (.t 6)),oq 4 (.mv (.v (.str []))),oq 5 (.mv (.t 20))]) .ret) .skip))) (.seq (.ops [ oq 21 (.mv (.t 0)),oq 22 (.nc (.t 21)),oq 23 (.fa 6 (.t 22)),oq 24 (.ld none (.t 23)),oq 25 (.bin .add (.t 24) (.v (.int .i64 1))),oq 26 (.nc (.t 21)),oq 27 (.fa 6 (.t 26)),oz (.store 1 (.t 27) (.t 25))]) (.seq (.ops [ oq 29 (.mv (.t 0)),oq 30 (.mv (.t 1)),oe 31 (.call 162 [(.t 29),(.t 30)]),oq 28 (.mv (.t 31)),oq 32 (.ext 0 (.t 28)),oq 33 (.ext 1 (.t 28)),oq 7 (.mv (.t 32)),oq 8 (.mv (.t 33))]) (.seq (.seq (.ops [ oq 34 (.mv (.t 8)),oq 35 (.un .not (.t 34))]) (.cond (.t 35) (.seq (.ops [ oq 4 (.mv (.v (.str []))),oq 5 (.mv (.v (.int .i64 8)))]) .ret) .skip)) (.seq (.ops [ oq 36 (.mv (.t 7)),oq 4 (.mv (.t 36)),oq 5 (.mv (.v (.int .i64 0)))]) .ret))))))
@[go_sem] def c139_27_wp:=wp_of c139_27.eq_1
def c139:AFn:=⟨37,[.t 4,.t 5],c139_27⟩
theorem c139_ok:compF Tryz.prog Tryz.f139=some c139:=by kernel_rfl
theorem a139 {args:List AV} {σ:ASt} {R:AV->ASt->Prop} (hl:args.length<=37) (h:c139_27.wp Tryz.prog (RetQ [.t 4,.t 5] R) (init args) σ):ACalls Tryz.prog 139 args σ R:=acalls_of Tryz.func139 c139_ok hl h
/-! 147: tabular/vint.U32 -/
def c147_3:ACode := .seq (.ops [ oq 2 (.mv (.v (.int .u32 0)))]) (.seq (.ops [ oq 3 (.mv (.t 0)),oq 4 (.ia 1 (.t 3) (.v (.int .i64 0))),oq 5 (.ld none (.t 4)),oq 6 (.conv .u32 (.t 5)),oq 7 (.mv (.t 0)),oq 8 (.ia 1 (.t 7) (.v (.int .i64 1))),oq 9 (.ld none (.t 8)),oq 10 (.conv .u32 (.t 9)),oq 11 (.bin .shl (.t 10) (.v (.int .u64 8))),oq 12 (.bin .or (.t 6) (.t 11)),oq 13 (.mv (.t 0)),oq 14 (.ia 1 (.t 13) (.v (.int .i64 2))),oq 15 (.ld none (.t 14)),oq 16 (.conv .u32 (.t 15)),oq 17 (.bin .shl (.t 16) (.v (.int .u64 16))),oq 18 (.bin .or (.t 12) (.t 17)),oq 19 (.mv (.t 0)),oq 20 (.ia 1 (.t 19) (.v (.int .i64 3))),oq 21 (.ld none (.t 20)),oq 22 (.conv .u32 (.t 21)),oq 23 (.bin .shl (.t 22) (.v (.int .u64 24))),oq 24 (.bin .or (.t 18) (.t 23)),oq 2 (.mv (.t 24))]) .ret)
@[go_sem] def c147_3_wp:=wp_of c147_3.eq_1
def c147:AFn:=⟨25,[.t 2],c147_3⟩
theorem c147_ok:compF Tryz.prog Tryz.f147=some c147:=by kernel_rfl
theorem a147 {args:List AV} {σ:ASt} {R:AV->ASt->Prop} (hl:args.length<=25) (h:c147_3.wp Tryz.prog (RetQ [.t 2] R) (init args) σ):ACalls Tryz.prog 147 args σ R:=acalls_of Tryz.func147 c147_ok hl h
/-! 162: (*tabular/disk.Disk).look -/
def c162_13:ACode := .seq (.ops [ oq 4 (.mv (.v (.str []))),oq 5 (.mv (.v (.bool false)))]) (.seq (.ops [ oq 9 (.mv (.t 0)),oq 10 (.nc (.t 9)),oq 11 (.fa 0 (.t 10)),oq 12 (.ld none (.t 11)),oq 13 (.mv (.t 1)),oq 14 (.bin .mul (.t 13) (.v (.int .i64 512))),oq 15 (.mv (.t 1)),oq 16 (.bin .add (.t 15) (.v (.int .i64 1))),oq 17 (.bin .mul (.t 16) (.v (.int .i64 512))),oq 18 (.sls (false,1) (.t 12) (.t 14) (.t 17)),oq 6 (.mv (.t 18))]) (.seq (.ops [ oq 20 (.mv (.t 6)),oq 21 (.slto (false,1) (.t 20) (.v (.int .i64 4))),oq 22 (.b2s (.t 21)),oe 23 (.call 79 [(.t 22)]),oq 19 (.mv (.t 23)),oq 24 (.ext 0 (.t 19)),oq 25 (.ext 1 (.t 19)),oq 7 (.mv (.t 24)),oq 8 (.mv (.t 25))]) (.seq (.seq (.ops [ oq 26 (.mv (.t 7)),oq 27 (.mv (.t 6)),oq 28 (.slfrom (false,1) (.t 27) (.v (.int .i64 4))),oq 29 (.b2s (.t 28)),oe 30 (.call 80 [(.t 29)]),oq 31 (.bin .neq (.t 26) (.t 30)),oq 32 (.mv (.t 31)),⟨some 33,some (32,false),.q (.mv (.t 6)),[]⟩,⟨some 34,some (32,false),.q (.slfrom (false,1) (.t 33) (.v (.int .i64 4))),[]⟩,⟨some 35,some (32,false),.e (.call 147 [(.t 34)]),[]⟩,⟨some 36,some (32,false),.q (.mv (.t 1)),[]⟩,⟨some 37,some (32,false),.q (.conv .u32 (.t 36)),[]⟩,⟨some 38,some (32,false),.q (.bin .neq (.t 35) (.t 37)),[]⟩,oq 39 (.pick (.t 32) (.v (.bool true)) (.t 38))]) (.cond (.t 39) (.seq (.ops [ oq 4 (.mv (.v (.str []))),oq 5 (.mv (.v (.bool false)))]) .ret) .skip)) (.seq (.ops [ oq 40 (.mv (.t 6)),oq 41 (.slfrom (false,1) (.t 40) (.v (.int .i64 8))),oq 42 (.b2s (.t 41)),oq 4 (.mv (.t 42)),oq 5 (.mv (.v (.bool true)))]) .ret))))
@[go_sem] def c162_13_wp:=wp_of c162_13.eq_1
def c162:AFn:=⟨43,[.t 4,.t 5],c162_13⟩
theorem c162_ok:compF Tryz.prog Tryz.f162=some c162:=by kernel_rfl
theorem a162 {args:List AV} {σ:ASt} {R:AV->ASt->Prop} (hl:args.length<=43) (h:c162_13.wp Tryz.prog (RetQ [.t 4,.t 5] R) (init args) σ):ACalls Tryz.prog 162 args σ R:=acalls_of Tryz.func162 c162_ok hl h
/-! 166: (*tabular/disk.Disk).Write -/
def c166_27:ACode := .seq (.ops [ oq 6 (.mv (.v (.int .i64 0)))]) (.seq (.seq (.ops [ oq 8 (.mv (.t 0)),oq 9 (.mv (.t 1)),oe 10 (.call 100 [(.t 8),(.t 9)]),oq 11 (.un .not (.t 10))]) (.cond (.t 11) (.seq (.ops [ oq 6 (.mv (.v (.int .i64 4)))]) .ret) .skip)) (.seq (.seq (.ops [ oq 12 (.mv (.t 2)),oq 13 (.lenS (.t 12)),oq 14 (.bin .neq (.t 13) (.v (.int .i64 504)))]) (.cond (.t 14) (.seq (.ops [ oq 6 (.mv (.v (.int .i64 1)))]) .ret) .skip)) (.seq (.seq (.ops [ oq 15 (.mv (.t 0)),oq 16 (.mv (.t 0)),oq 17 (.nc (.t 16)),oq 18 (.fa 5 (.t 17)),oe 19 (.call 76 [(.t 15),(.t 18)]),oq 7 (.mv (.t 19))]) (.seq (.ops [ oq 20 (.mv (.t 7)),oq 21 (.bin .neq (.t 20) (.v (.int .i64 0)))]) (.cond (.t 21) (.seq (.ops [ oq 22 (.mv (.t 7)),oq 6 (.mv (.t 22))]) .ret) .skip))) (.seq (.ops [ oq 23 (.mv (.t 0)),oq 24 (.nc (.t 23)),oq 25 (.fa 7 (.t 24)),oq 26 (.ld none (.t 25)),oq 27 (.bin .add (.t 26) (.v (.int .i64 1))),oq 28 (.nc (.t 23)),oq 29 (.fa 7 (.t 28)),oz (.store 1 (.t 29) (.t 27))]) (.seq (.ops [ oq 30 (.mv (.t 0)),oq 31 (.mv (.t 1)),oq 32 (.mv (.t 2)),oe 33 (.call 78 [(.t 30),(.t 31),(.t 32)])]) (.seq (.ops [ oq 6 (.mv (.v (.int .i64 0)))]) .ret))))))
@[go_sem] def c166_27_wp:=wp_of c166_27.eq_1
def c166:AFn:=⟨34,[.t 6],c166_27⟩
theorem c166_ok:compF Tryz.prog Tryz.f166=some c166:=by kernel_rfl
theorem a166 {args:List AV} {σ:ASt} {R:AV->ASt->Prop} (hl:args.length<=34) (h:c166_27.wp Tryz.prog (RetQ [.t 6] R) (init args) σ):ACalls Tryz.prog 166 args σ R:=acalls_of Tryz.func166 c166_ok hl h
end Go.A
namespace Go.A
open Go.Proofs
structure LM (σ:ASt) (d:Nat) (D:Dsk) (B cB:Nat) (rB:List AV) (fv:AV) (I cI:Nat) (rI:List AV):Prop where
 hd:σ d=some (.obj (D.cs B cB fv I cI))
 hB:σ B=some (.obj (bytesAV D.b++rB))
 hI:σ I=some (.obj (D.isF.map AV.bool++rI))
 cB:D.b.length<=cB
 cI:D.isF.length<=cI
 n1:d≠B
 n2:d≠I
theorem DM.lm {σ0 σ:ASt} {d B cB F I cI:Nat} {D:Dsk} {rB rI:List AV} {fv:AV} (h:DM σ0 d D σ B cB rB fv F I cI rI):LM σ d D B cB rB fv I cI rI:=⟨h.hd,h.hB,h.hI,h.cB.1,h.cI.1,h.n1,h.n2⟩
theorem u32m_ok {σ:ASt} {B o n c:Nat} {cs:List AV} {s:List UInt8} (hs:s.length=4) (hB:σ B=some (.obj cs)) (hc:(cs.drop o).take 4=bytesAV s) (hn:4<=n):ACalls Tryz.prog 147 [.msl B o n c] σ fun v σ'=>v = .int .u32 (of32 s:Nat)/\σ'=σ:=by
 match s,hs with
 | [a,b,c',d],_=>
   have ha:=u8_lt' a
   have hb:=u8_lt' b
   have hc':=u8_lt' c'
   have hd:=u8_lt' d
   have g:∀ i x,i<4->(bytesAV [a,b,c',d])[i]? = some x->cs[o+i]? = some x:=fun i x hi hx=>by
    rw [<-hc,List.getElem?_take,if_pos hi,List.getElem?_drop] at hx
    exact hx
   have g0:cs[o]? = some (.int .u8 a.toNat):=g 0 _ (by decide) rfl
   have g1:cs[o+1]? = some (.int .u8 b.toNat):=g 1 _ (by decide) rfl
   have g2:cs[o+2]? = some (.int .u8 c'.toNat):=g 2 _ (by decide) rfl
   have g3:cs[o+3]? = some (.int .u8 d.toNat):=g 3 _ (by decide) rfl
   have ho:of32 [a,b,c',d]=a.toNat+b.toNat*256+c'.toNat*65536+d.toNat*16777216:=rfl
   rw [ho]
   clear g hc ho
   generalize hna:a.toNat=na at *
   generalize hnb:b.toNat=nb at *
   generalize hnc:c'.toNat=nc at *
   generalize hnd:d.toNat=nd at *
   obtain ⟨b2,hB2⟩:∃ B,B=nb*256:=⟨_,rfl⟩
   obtain ⟨b3,hC2⟩:∃ C,C=nc*65536:=⟨_,rfl⟩
   obtain ⟨b4,hD2⟩:∃ D,D=nd*16777216:=⟨_,rfl⟩
   rw [<-hB2,← hC2,← hD2]
   have h1:na ||| b2=na+b2:=by rw [hB2];exact or_add (k:=8) (by omega)
   have h2:(na+b2) ||| b3=na+b2+b3:=by rw [hC2];exact or_add (k:=16) (by omega)
   have h3:(na+b2+b3) ||| b4=na+b2+b3+b4:=by rw [hD2];exact or_add (k:=24) (by omega)
   have m1:(nb:Int)*256=(b2:Int):=by omega
   have m2:(nc:Int)*65536=(b3:Int):=by omega
   have m3:(nd:Int)*16777216=(b4:Int):=by omega
   have o1:or32 na b2=((na+b2:Nat):Int):=by rw [bor (by omega) (by omega),h1]
   have o2:or32 (na+b2:Nat) b3=((na+b2+b3:Nat):Int):=by rw [bor (by omega) (by omega),h2]
   have o3:or32 (na+b2+b3:Nat) b4=((na+b2+b3+b4:Nat):Int):=by rw [bor (by omega) (by omega),h3]
   have l3:na+b2+b3+b4<4294967296:=by omega
   have l2:na+b2+b3<4294967296:=by omega
   have l1:na+b2<4294967296:=by omega
   have bl:b2<4294967296/\b3<4294967296/\b4<4294967296:=by omega
   clear hB2 hC2 hD2 h1 h2 h3
   generalize hX:na+b2=X at *
   generalize hY:X+b3=Y at *
   generalize hZ:Y+b4=Z at *
   obtain ⟨q1,q2,q3⟩:=bl
   have n0:(0:Int)<(n:Int):=by omega
   have n1:(1:Int)<(n:Int):=by omega
   have n2:(2:Int)<(n:Int):=by omega
   have n3:(3:Int)<(n:Int):=by omega
   refine a147 (by simp) ?_
   simp (disch:=first|assumption|omega|(simp only [List.length_append,List.length_cons,List.length_nil];omega)) only [go_sem,hB,g0,g1,g2,g3,m1,o1,m2,o2,m3,o3,Nat.add_zero]
   exact retC_by (.refl _) (.refl _) ⟨rfl,rfl⟩
def lookAV:Option (List UInt8)->AV
 | some s => .tuple [.str s,.bool true]
 | none => .tuple [.str [],.bool false]
section
variable {σ σ0:ASt} {d B cB F I cI:Nat} {D:Dsk} {rB rI:List AV} {fv:AV}
set_option maxHeartbeats 1000000 in
theorem dklook_ok (hT:CkT σ) (h:LM σ d D B cB rB fv I cI rI) {p:Nat} (hp:(p+1)*512<=D.b.length) (hp6:p<=60000) :
  ACalls Tryz.prog 162 [.ptr d 0,.int .i64 p] σ fun v σ'=>v=lookAV (lookP D.b p)/\σ'=σ:=by
 have hd:=h.hd
 have hB:=h.hB
 have hcB:=h.cB
 unfold Dsk.cs at hd
 obtain ⟨P,hP⟩:∃ P,P=p*512:=⟨_,rfl⟩
 have hPn:P+512<=D.b.length:=by omega
 obtain ⟨A,hA⟩:∃ A,A=D.b.take P:=⟨_,rfl⟩
 obtain ⟨C,hC⟩:∃ C,C=D.b.drop (P+512):=⟨_,rfl⟩
 have hlk:lookP D.b p=if of32 ((pgAt D.b p).take 4)=ckN ((pgAt D.b p).drop 4)/\of32 (((pgAt D.b p).drop 4).take 4)=p then some ((pgAt D.b p).drop 8) else none:=rfl
 have hpg:pgAt D.b p=(D.b.drop P).take 512:=by rw [hP];rfl
 rw [hlk]
 generalize pgAt D.b p=pg at *
 have hAl:A.length=P:=by rw [hA,List.length_take];omega
 have hpl:pg.length=512:=by rw [hpg,List.length_take,List.length_drop];omega
 have hbe:D.b=A++pg++C:=by
  rw [hA,hpg,hC,List.append_assoc,← List.drop_drop,List.take_append_drop,List.take_append_drop]
 have d8:pg.drop 8=(pg.drop 4).drop 4:=by rw [List.drop_drop]
 have m1:((bytesAV D.b++rB).drop P).take 4=bytesAV (pg.take 4):=
  mem_get (x:=A) (z:=pg.drop 4++C) (by rw [hbe];conv=>lhs;rw [<-List.take_append_drop 4 pg]
                                       simp only [List.append_assoc]) hAl (by rw [List.length_take];omega)
 have m2:((bytesAV D.b++rB).drop (P+4)).take 508=bytesAV (pg.drop 4):=
  mem_get (x:=A++pg.take 4) (z:=C) (by rw [hbe];conv=>lhs;rw [<-List.take_append_drop 4 pg]
                                       simp only [List.append_assoc]) (by rw [List.length_append,List.length_take];omega) (by rw [List.length_drop];omega)
 have m3:((bytesAV D.b++rB).drop (P+4)).take 4=bytesAV ((pg.drop 4).take 4):=by
  have e:((bytesAV D.b++rB).drop (P+4)).take 4=(((bytesAV D.b++rB).drop (P+4)).take 508).take 4:=by rw [List.take_take];rfl
  rw [e,m2,bytes_take]
 have m4:((bytesAV D.b++rB).drop (P+8)).take 504=bytesAV (pg.drop 8):=
  mem_get (x:=A++pg.take 8) (z:=C) (by rw [hbe];conv=>lhs;rw [<-List.take_append_drop 8 pg]
                                       simp only [List.append_assoc]) (by rw [List.length_append,List.length_take];omega) (by rw [List.length_drop];omega)
 have ml:P+512<=(bytesAV D.b++rB).length:=by rw [List.length_append,kbytes_len];omega
 have hg:=ckget_ok (s:=pg.take 4) (by rw [List.length_take];omega)
 have hsm:=cksum_ok hT (pg.drop 4) (by rw [List.length_drop];omega)
 have hu:=u32m_ok (s:=(pg.drop 4).take 4) (B:=B) (o:=P+4) (n:=508) (c:=cB-P-4) (by rw [List.length_take,List.length_drop];omega) hB m3 (by decide)
 have hz1:of32 (pg.take 4)<4294967296:=of32_lt
 have hz2:=ckN_lt (pg.drop 4)
 have hz3:of32 ((pg.drop 4).take 4)<4294967296:=of32_lt
 generalize bytesAV D.b++rB=M0 at *
 clear hbe hA hC hpg d8 m3
 generalize of32 (pg.take 4)=z1 at *
 generalize of32 ((pg.drop 4).take 4)=z3 at *
 generalize ckN (pg.drop 4)=z2 at *
 generalize pg.take 4=pg4 at *
 generalize pg.drop 4=pgd at *
 generalize pg.drop 8=pg8 at *
 have e1:((p:Int)*512).toNat=P:=by omega
 have e2:(((p:Int)+1)*512).toNat=P+512:=by omega
 have q0:0<=(p:Int)*512:=by omega
 have q1:(p:Int)*512<=((p:Int)+1)*512:=by omega
 have q2:((p:Int)+1)*512<=(cB:Int):=by omega
 have q3:(p:Int)*512<(cB:Int):=by omega
 obtain ⟨L,hL⟩:∃ L:Nat,L=512:=⟨_,rfl⟩
 have hLi:(L:Int)=512:=by omega
 have e3:P+512-P=L:=by omega
 obtain ⟨c1,hc1'⟩:∃ c,c=cB-P:=⟨_,rfl⟩
 rw [<-hc1'] at hu
 have hcP:=hc1'.symm
 have hpb:(p:Int)<=60000:=by omega
 have z0:0+P*1=P:=by omega
 have r4:P+4<=M0.length:=by omega
 have r8:P+4+508<=M0.length:=by omega
 have r9:P+8+504<=M0.length:=by omega
 have c504:(504:Nat)<=c1:=by omega
 have c512:(512:Int)<=(c1:Int):=by omega
 by_cases g1:z1=z2
 ·by_cases g2:z3=p
  ·rw [if_pos ⟨g1,g2⟩]
   subst g1 g2
   refine a162 (by simp) ?_
   simp (disch:=first|assumption|omega|(simp only [List.length_append,List.length_cons,List.length_nil];omega)) only [go_sem,hd,hB,e1,e2,e3,hcP,hLi,z0,m1,r4,Nat.zero_add]
   refine hg.use ?_
   simp (disch:=first|assumption|omega|(simp only [List.length_append,List.length_cons,List.length_nil];omega)) only [go_sem,hB,hcP,hLi,m2,r8]
   refine hsm.mono ?_
   rintro v σ1 ⟨rfl,rfl⟩
   simp (disch:=first|assumption|omega|(simp only [List.length_append,List.length_cons,List.length_nil];omega)) only [go_sem,hB,hcP,hLi]
   refine hu.mono ?_
   rintro v σ1 ⟨rfl,rfl⟩
   simp (disch:=first|assumption|omega|(simp only [List.length_append,List.length_cons,List.length_nil];omega)) only [go_sem,hB,hcP,hLi,m4,r9]
   exact retC_by (.refl _) (.refl _) ⟨rfl,rfl⟩
  ·rw [if_neg fun h=>g2 h.2]
   subst g1
   have g2':¬ (z3:Int)=(p:Int):=by omega
   refine a162 (by simp) ?_
   simp (disch:=first|assumption|omega|(simp only [List.length_append,List.length_cons,List.length_nil];omega)) only [go_sem,hd,hB,e1,e2,e3,hcP,hLi,z0,m1,r4,Nat.zero_add]
   refine hg.use ?_
   simp (disch:=first|assumption|omega|(simp only [List.length_append,List.length_cons,List.length_nil];omega)) only [go_sem,hB,hcP,hLi,m2,r8]
   refine hsm.mono ?_
   rintro v σ1 ⟨rfl,rfl⟩
   simp (disch:=first|assumption|omega|(simp only [List.length_append,List.length_cons,List.length_nil];omega)) only [go_sem,hB,hcP,hLi]
   refine hu.mono ?_
   rintro v σ1 ⟨rfl,rfl⟩
   simp (disch:=first|assumption|omega|(simp only [List.length_append,List.length_cons,List.length_nil];omega)) only [go_sem,g2',hB,hcP,hLi,m4,r9]
   exact retC_by (.refl _) (.refl _) ⟨rfl,rfl⟩
 ·rw [if_neg fun h=>g1 h.1]
  have g1':¬ (z1:Int)=(z2:Int):=by omega
  refine a162 (by simp) ?_
  simp (disch:=first|assumption|omega|(simp only [List.length_append,List.length_cons,List.length_nil];omega)) only [go_sem,hd,hB,e1,e2,e3,hcP,hLi,z0,m1,r4,Nat.zero_add]
  refine hg.use ?_
  simp (disch:=first|assumption|omega|(simp only [List.length_append,List.length_cons,List.length_nil];omega)) only [go_sem,hB,hcP,hLi,m2,r8]
  refine hsm.mono ?_
  rintro v σ1 ⟨rfl,rfl⟩
  simp (disch:=first|assumption|omega|(simp only [List.length_append,List.length_cons,List.length_nil];omega)) only [go_sem,g1',hB,hcP,hLi]
  exact retC_by (.refl _) (.refl _) ⟨rfl,rfl⟩
theorem dkcountL_ok (h:LM σ d D B cB rB fv I cI rI) {n:Nat} (hl:D.b.length=n*512) (hn:n<=60000):ACalls Tryz.prog 77 [.ptr d 0] σ fun v σ'=>v = .int .i64 n/\σ'=σ:=by
 have hd:=h.hd
 unfold Dsk.cs at hd
 have e:((D.b.length:Nat):Int).tdiv 512=(n:Int):=by
  rw [hl,Int.natCast_mul]
  exact Int.mul_tdiv_cancel _ (by decide)
 refine a77 (by simp) ?_
 simp (disch:=first|assumption|omega|(simp only [List.length_append,List.length_cons,List.length_nil];omega)) only [go_sem,hd,e]
 exact retC_by (.refl _) (.refl _) ⟨rfl,rfl⟩
theorem dkhas_ok (h:LM σ d D B cB rB fv I cI rI) {n:Nat} (hl:D.b.length=n*512) (hn:n<=60000) (hi:D.isF.length=n) {p:Nat} (h1:1<=p) (hp:p<n) {x:Bool} (hx:D.isF[p]? = some x):ACalls Tryz.prog 100 [.ptr d 0,.int .i64 p] σ fun v σ'=>v = .bool (!x)/\σ'=σ:=by
 have hc:=dkcountL_ok h hl hn
 have hd:=h.hd
 have hI:=h.hI
 have hcI:=h.cI
 unfold Dsk.cs at hd
 have hm:(D.isF.map AV.bool++rI)[p]? = some (.bool x):=by
  rw [List.getElem?_append_left (by rw [List.length_map];omega),List.getElem?_map,hx]
  rfl
 rw [hi] at hd
 have i1:1<=(p:Int):=by omega
 have i2:(p:Int)<(n:Int):=by omega
 refine a100 (by simp) ?_
 simp (disch:=first|assumption|omega|(simp only [List.length_append,List.length_cons,List.length_nil];omega)) only [go_sem]
 refine hc.mono ?_
 rintro v σ1 ⟨rfl,rfl⟩
 simp (disch:=first|assumption|omega|(simp only [List.length_append,List.length_cons,List.length_nil];omega)) only [go_sem,hd,hI,hm,Nat.zero_add,Int.toNat_natCast]
 exact retC_by (.refl _) (.refl _) ⟨rfl,rfl⟩
theorem dkfailR_ok (h:LM σ d D B cB rB fv I cI rI) (hr:D.rl = -1):ACalls Tryz.prog 76 [.ptr d 0,.ptr d 4] σ fun v σ'=>v = .int .i64 0/\σ'=σ:=by
 have hd:=h.hd
 unfold Dsk.cs at hd
 rw [hr] at hd
 refine a76 (by simp) ?_
 simp (disch:=first|assumption|omega|(simp only [List.length_append,List.length_cons,List.length_nil];omega)) only [go_sem,hd]
 exact retC_by (.refl _) (.refl _) ⟨rfl,rfl⟩
def readAV:Option (List UInt8)->AV
 | some s => .tuple [.str s,.int .i64 0]
 | none => .tuple [.str [],.int .i64 8]
end
end Go.A
namespace Go.A
open Go.Proofs
def spD (m:Int) (h0:List UInt8) (L:List (List UInt8)) (pt:Int):Dsk:=⟨imgF 0 (h0::L),m,[],List.replicate (L.length+1) false, -1, -1,0,pt⟩
theorem new_spD (m:Int):newP m=spD m (headP (rawP m)) [] 1:=by
 rw [newP_eq]
 have h:(headP (rawP m)).length<=504:=by rw [headP_len];decide
 generalize headP (rawP m)=hh at *
 have e:layP (List.replicate 512 0) 0 hh=imgF 0 [hh]:=by
  have:=lay_new (l := []) (fun s hs=>by cases hs) hh
  exact this
 rw [e]
 rfl
end Go.A
namespace Go.A
open Go.Proofs
/-! 102: (*tabular/disk.Disk).Give -/
def c102_25:ACode := .seq (.ops [ oq 4 (.mv (.v (.int .i64 0)))]) (.seq (.seq (.ops [ oq 6 (.mv (.t 0)),oq 7 (.mv (.t 1)),oe 8 (.call 100 [(.t 6),(.t 7)]),oq 9 (.un .not (.t 8))]) (.cond (.t 9) (.seq (.ops [ oq 4 (.mv (.v (.int .i64 4)))]) .ret) .skip)) (.seq (.seq (.ops [ oq 10 (.mv (.t 0)),oq 11 (.mv (.t 0)),oq 12 (.nc (.t 11)),oq 13 (.fa 5 (.t 12)),oe 14 (.call 76 [(.t 10),(.t 13)]),oq 5 (.mv (.t 14))]) (.seq (.ops [ oq 15 (.mv (.t 5)),oq 16 (.bin .neq (.t 15) (.v (.int .i64 0)))]) (.cond (.t 16) (.seq (.ops [ oq 17 (.mv (.t 5)),oq 4 (.mv (.t 17))]) .ret) .skip))) (.seq (.ops [ oq 18 (.mv (.t 0)),oq 19 (.nc (.t 18)),oq 20 (.fa 7 (.t 19)),oq 21 (.ld none (.t 20)),oq 22 (.bin .add (.t 21) (.v (.int .i64 1))),oq 23 (.nc (.t 18)),oq 24 (.fa 7 (.t 23)),oz (.store 1 (.t 24) (.t 22))]) (.seq (.ops [ oq 25 (.mv (.t 0)),oq 26 (.mv (.t 1)),oq 27 (.mv (.t 0)),oq 28 (.mv (.t 0)),oq 29 (.nc (.t 28)),oq 30 (.fa 2 (.t 29)),oq 31 (.ld none (.t 30)),oq 32 (.len (.t 31)),oe 33 (.call 86 [(.t 27),(.t 32)]),oe 34 (.call 78 [(.t 25),(.t 26),(.t 33)])]) (.seq (.ops [ oq 35 (.mv (.t 0)),oq 36 (.mv (.t 0)),oq 37 (.nc (.t 36)),oq 38 (.fa 2 (.t 37)),oq 39 (.ld none (.t 38)),oq 40 (.mv (.t 1)),oq 41 (.bslv 1 [(.t 40)]),oe 42 (.app 3 1 8 [(.int .i64 0)] (.t 39) (.t 41)),oq 43 (.nc (.t 35)),oq 44 (.fa 2 (.t 43)),oz (.store 1 (.t 44) (.t 42))]) (.seq (.ops [ oq 45 (.mv (.t 0)),oq 46 (.nc (.t 45)),oq 47 (.fa 3 (.t 46)),oq 48 (.ld none (.t 47)),oq 49 (.mv (.t 1)),oq 50 (.ia 1 (.t 48) (.t 49)),oz (.store 1 (.t 50) (.v (.bool true)))]) (.seq (.ops [ oq 4 (.mv (.v (.int .i64 0)))]) .ret)))))))
@[go_sem] def c102_25_wp:=wp_of c102_25.eq_1
def c102:AFn:=⟨51,[.t 4],c102_25⟩
theorem c102_ok:compF Tryz.prog Tryz.f102=some c102:=by kernel_rfl
theorem a102 {args:List AV} {σ:ASt} {R:AV->ASt->Prop} (hl:args.length<=51) (h:c102_25.wp Tryz.prog (RetQ [.t 4] R) (init args) σ):ACalls Tryz.prog 102 args σ R:=acalls_of Tryz.func102 c102_ok hl h
end Go.A
namespace Go.A
open Go.Proofs
section
variable {σ0 σ:ASt} {d B cB F I cI:Nat} {D:Dsk} {rB rI:List AV} {fv:AV}
theorem DM.mark (h:DM σ0 d D σ B cB rB fv F I cI rI) {p:Nat} (hp:p<D.isF.length) (x:Bool) :
  DM σ0 d { D with isF:=D.isF.set p x } (σ.set I (some (.obj ((D.isF.map AV.bool++rI).take p ++ [.bool x]++(D.isF.map AV.bool++rI).drop (p+1))))) B cB rB fv F I cI rI:=by
 have hl:(D.isF.set p x).length=D.isF.length:=List.length_set
 have hm:(D.isF.map AV.bool).length=D.isF.length:=List.length_map _
 have e:(D.isF.map AV.bool++rI).take p ++ [.bool x]++(D.isF.map AV.bool++rI).drop (p+1)=(D.isF.set p x).map AV.bool++rI:=by
  rw [List.take_append_of_le_length (by omega),List.drop_append_of_le_length (by omega),List.map_set,List.set_eq_take_append_cons_drop,if_pos (by omega)]
  simp only [List.append_assoc,List.singleton_append,List.cons_append,List.nil_append]
 rw [e]
 have hF:=h.hF
 refine ⟨?_,?_,?_,h.cB,by dsimp only;rw [hl];exact h.cI,?_,h.n1,h.n2,h.n3,h.z1,h.z2,h.z3,?_⟩
 ·rw [ASt.set_ne h.n2,h.hd]
  unfold Dsk.cs
  dsimp only
  rw [hl]
 ·rw [ASt.set_ne h.n3];exact h.hB
 ·rw [ASt.set_same]
 ·rcases hF with ⟨h1,h2,h3⟩|⟨cF,rF,h1,h2,h3,h4,h5,h6,h7,h8⟩
  ·exact .inl ⟨h1,h2,h3⟩
  ·exact .inr ⟨cF,rF,h1,by rw [ASt.set_ne h7];exact h2,h3,h4,h5,h6,h7,h8⟩
 ·intro x h1 h2 h3 h4
  rw [ASt.set_ne h3];exact h.out x h1 h2 h3 h4
end
end Go.A
namespace Go.Proofs
open Go.Shelf
def Tryz.lays103_ren:Go.Shelf.Ren:=⟨fun|103=>82|210=>142|206=>164|n=>n,fun|9=>9|4=>4|24=>62|3=>3|n=>n,fun|n=>n⟩
theorem Tryz.lays103:Go.Proofs.Lays.n103 Tryz.prog Tryz.lays103_ren := {
 mixed:=by kernel_rfl
 f103:=Tryz.func82.trans (congrArg some (by kernel_rfl))
 f206:=Tryz.func164.trans (congrArg some (by kernel_rfl))
 f210:=Tryz.func142.trans (congrArg some (by kernel_rfl))
 t3:=Tryz.underlying3
 a3:=Tryz.isAgg3
 z3:=Tryz.sizeOf3
 v3:=Tryz.zeroValue3
 t4:=Tryz.underlying4
 a4:=Tryz.isAgg4
 z4:=Tryz.sizeOf4
 v4:=Tryz.zeroValue4
 t9:=Tryz.underlying9
 a9:=Tryz.isAgg9
 z9:=Tryz.sizeOf9
 v9:=Tryz.zeroValue9
 t24:=Tryz.underlying62
 a24:=Tryz.isAgg62
 z24:=Tryz.sizeOf62
 v24:=Tryz.zeroValue62 }
open Go.RowKit in
theorem Tryz.strings_CutPrefix (s p:ByteArray) (w:World) :
  Calls Tryz.prog 82 #[.string s,.string p] w fun e w'=>e = .returned (.tuple #[.string ⟨(Lib.trimPrefix s.data.toList p.data.toList).toArray⟩,.bool (Lib.hasPrefix s.data.toList p.data.toList)])/\w'=w:=Any.strings_CutPrefix Tryz.lays103 s p w
def Tryz.lays219_ren:Go.Shelf.Ren:=⟨fun|219=>165|217=>180|225=>181|224=>182|267=>183|266=>191|314=>192|n=>n,fun|9=>9|3=>3|4=>4|5=>5|46=>109|146=>226|51=>96|n=>n,fun|1=>1|n=>n⟩
theorem Tryz.lays219:Go.Proofs.Lays.n219 Tryz.prog Tryz.lays219_ren := {
 mixed:=by kernel_rfl
 f217:=Tryz.func180.trans (congrArg some (by kernel_rfl))
 f219:=Tryz.func165.trans (congrArg some (by kernel_rfl))
 f224:=Tryz.func182.trans (congrArg some (by kernel_rfl))
 f225:=Tryz.func181.trans (congrArg some (by kernel_rfl))
 f266:=Tryz.func191.trans (congrArg some (by kernel_rfl))
 f267:=Tryz.func183.trans (congrArg some (by kernel_rfl))
 f314:=Tryz.func192.trans (congrArg some (by kernel_rfl))
 t3:=Tryz.underlying3
 a3:=Tryz.isAgg3
 z3:=Tryz.sizeOf3
 v3:=Tryz.zeroValue3
 t4:=Tryz.underlying4
 a4:=Tryz.isAgg4
 z4:=Tryz.sizeOf4
 v4:=Tryz.zeroValue4
 t5:=Tryz.underlying5
 a5:=Tryz.isAgg5
 z5:=Tryz.sizeOf5
 v5:=Tryz.zeroValue5
 t9:=Tryz.underlying9
 a9:=Tryz.isAgg9
 z9:=Tryz.sizeOf9
 v9:=Tryz.zeroValue9
 t46:=Tryz.underlying109
 a46:=Tryz.isAgg109
 z46:=Tryz.sizeOf109
 v46:=Tryz.zeroValue109
 t51:=Tryz.underlying96
 a51:=Tryz.isAgg96
 z51:=Tryz.sizeOf96
 v51:=Tryz.zeroValue96
 t146:=Tryz.underlying226
 a146:=Tryz.isAgg226
 z146:=Tryz.sizeOf226
 v146:=Tryz.zeroValue226
 g1:=by kernel_rfl }
open Go.RowKit Go.Lib in
theorem Tryz.stringslite_Index_one (s:ByteArray) (c:UInt8) (w:World) :
  Calls Tryz.prog 165 #[.string s,.string ⟨#[c]⟩] w fun e w'=>e = .returned (.int .i64 (Lib.indexByte s.data.toList c))/\w'=w:=Any.stringslite_Index_one Tryz.lays219 s c w
end Go.Proofs
namespace Go.A
open Go.Proofs
section
variable {P:Program} {σ:ASt} {w:World}
theorem ACalls.of_ext {f:FuncId} {args:List AV} {r:AV} {u:Value} (h:∀ w vs,Sim σ w->Reps σ w args vs->Calls P f ⟨vs⟩ w fun e w'=>e = .returned u/\Ext w w') (hr:∀ w,Rep σ w r u):ACalls P f args σ fun v σ'=>v=r/\σ'=σ:=
 fun w vs hs ha=>(h w vs hs ha).mono fun e w' ⟨he,hx⟩=>⟨u,r,σ,he,⟨rfl,rfl⟩,ext_le hx,hs.ext hx,hr w'⟩
end
theorem Ext.of_eq {w w':World} (h:w'=w):Ext w w':=h▸Ext.refl w
end Go.A
namespace Go.A
open Go.Proofs
/-! 27: tabular/deci.Parse -/
def c27_25:ACode := .seq (.ops [ oq 47 (.bin .lss (.t 46) (.t 45))]) (.seq (.cond (.t 47) .skip (.exit 0)) (.seq (.block 1 (.seq (.ops [ oq 48 (.ia 1 (.t 44) (.t 46)),oq 49 (.ld none (.t 48)),oq 11 (.mv (.t 49))]) (.seq (.seq (.ops [ oq 50 (.mv (.t 11)),oq 51 (.bin .lss (.t 50) (.v (.int .u8 48))),oq 52 (.mv (.t 51)),⟨some 53,some (52,false),.q (.mv (.t 11)),[]⟩,⟨some 54,some (52,false),.q (.bin .gtr (.t 53) (.v (.int .u8 57))),[]⟩,oq 55 (.pick (.t 52) (.v (.bool true)) (.t 54)),oq 56 (.mv (.t 55)),⟨some 57,some (56,false),.q (.mv (.t 9)),[]⟩,⟨some 58,some (56,false),.q (.bin .gtr (.t 57) (.v (.int .u64 99999999999999999))),[]⟩,oq 59 (.pick (.t 56) (.v (.bool true)) (.t 58))]) (.cond (.t 59) (.seq (.ops [ oq 2 (.mv (.v (.int .i64 0))),oq 3 (.mv (.v (.bool false)))]) .ret) .skip)) (.ops [ oq 60 (.mv (.t 9)),oq 61 (.bin .mul (.v (.int .u64 10)) (.t 60)),oq 62 (.mv (.t 11)),oq 63 (.bin .sub (.t 62) (.v (.int .u8 48))),oq 64 (.conv .u64 (.t 63)),oq 65 (.bin .add (.t 61) (.t 64)),oq 9 (.mv (.t 65))])))) (.ops [ oq 66 (.bin .add (.t 46) (.v (.int .i64 1))),oq 46 (.mv (.t 66))])))
def c27_32:ACode := .seq (.ops [ oq 9 (.mv (.v (.int .u64 0)))]) (.seq (.seq (.ops [ oq 37 (.mv (.t 6)),oq 38 (.mv (.t 7)),oq 39 (.bin .add (.t 37) (.t 38)),oq 40 (.mv (.t 7)),oq 41 (.lenS (.t 40)),oq 42 (.slfrom (true,0) (.v (.str [48,48,48,48])) (.t 41)),oq 43 (.bin .add (.t 39) (.t 42)),oe 44 (.s2b (.t 43)),oq 45 (.len (.t 44)),oq 46 (.mv (.v (.int .i64 0)))]) (.block 0 (.loop c27_25))) (.seq (.ops [ oq 67 (.mv (.t 5)),oq 68 (.mv (.t 9)),oe 69 (.call 84 [(.t 67),(.v (.int .u64 0)),(.t 68)]),oq 70 (.ext 0 (.t 69)),oq 71 (.ext 1 (.t 69)),oq 2 (.mv (.t 70)),oq 3 (.mv (.t 71))]) .ret))
def c27_36:ACode := .seq (.ops [ oq 2 (.mv (.v (.int .i64 0))),oq 3 (.mv (.v (.bool false)))]) (.seq (.ops [ oq 13 (.mv (.t 0)),oe 14 (.call 82 [(.t 13),(.v (.str [45]))]),oq 12 (.mv (.t 14)),oq 15 (.ext 0 (.t 12)),oq 16 (.ext 1 (.t 12)),oq 4 (.mv (.t 15)),oq 5 (.mv (.t 16))]) (.seq (.ops [ oq 18 (.mv (.t 4)),oe 19 (.call 83 [(.t 18),(.v (.str [46]))]),oq 17 (.mv (.t 19)),oq 20 (.ext 0 (.t 17)),oq 21 (.ext 1 (.t 17)),oq 22 (.ext 2 (.t 17)),oq 6 (.mv (.t 20)),oq 7 (.mv (.t 21)),oq 8 (.mv (.t 22))]) (.seq (.seq (.ops [ oq 23 (.mv (.t 6)),oq 24 (.bin .eql (.t 23) (.v (.str []))),oq 25 (.mv (.t 24)),⟨some 26,some (25,false),.q (.mv (.t 8)),[]⟩,⟨some 27,some (25,false),.q (.mv (.t 26)),[]⟩,⟨some 28,some (27,true),.q (.mv (.t 7)),[]⟩,⟨some 29,some (27,true),.q (.bin .eql (.t 28) (.v (.str []))),[]⟩,⟨some 30,some (27,true),.q (.mv (.t 29)),[]⟩,⟨some 31,some (30,false),.q (.mv (.t 7)),[]⟩,⟨some 32,some (30,false),.q (.lenS (.t 31)),[]⟩,⟨some 33,some (30,false),.q (.bin .gtr (.t 32) (.v (.int .i64 4))),[]⟩,⟨some 34,some (27,true),.q (.pick (.t 30) (.v (.bool true)) (.t 33)),[]⟩,⟨some 35,some (25,false),.q (.pick (.t 27) (.t 34) (.v (.bool false))),[]⟩,oq 36 (.pick (.t 25) (.v (.bool true)) (.t 35))]) (.cond (.t 36) (.seq (.ops [ oq 2 (.mv (.v (.int .i64 0))),oq 3 (.mv (.v (.bool false)))]) .ret) .skip)) c27_32)))
@[go_sem] def c27_25_wp:=wp_of c27_25.eq_1
@[go_sem] def c27_32_wp:=wp_of c27_32.eq_1
@[go_sem] def c27_36_wp:=wp_of c27_36.eq_1
def c27:AFn:=⟨72,[.t 2,.t 3],c27_36⟩
theorem c27_ok:compF Tryz.prog Tryz.f27=some c27:=by kernel_rfl
theorem a27 {args:List AV} {σ:ASt} {R:AV->ASt->Prop} (hl:args.length<=72) (h:c27_36.wp Tryz.prog (RetQ [.t 2,.t 3] R) (init args) σ):ACalls Tryz.prog 27 args σ R:=acalls_of Tryz.func27 c27_ok hl h
/-! 83: strings.Cut -/
def c83_3:ACode := .seq (.ops [ oq 4 (.mv (.v (.str []))),oq 5 (.mv (.v (.str []))),oq 6 (.mv (.v (.bool false)))]) (.seq (.ops [ oq 7 (.mv (.t 0)),oq 8 (.mv (.t 1)),oe 9 (.call 143 [(.t 7),(.t 8)]),oq 10 (.ext 0 (.t 9)),oq 11 (.ext 1 (.t 9)),oq 12 (.ext 2 (.t 9)),oq 4 (.mv (.t 10)),oq 5 (.mv (.t 11)),oq 6 (.mv (.t 12))]) .ret)
@[go_sem] def c83_3_wp:=wp_of c83_3.eq_1
def c83:AFn:=⟨13,[.t 4,.t 5,.t 6],c83_3⟩
theorem c83_ok:compF Tryz.prog Tryz.f83=some c83:=by kernel_rfl
theorem a83 {args:List AV} {σ:ASt} {R:AV->ASt->Prop} (hl:args.length<=13) (h:c83_3.wp Tryz.prog (RetQ [.t 4,.t 5,.t 6] R) (init args) σ):ACalls Tryz.prog 83 args σ R:=acalls_of Tryz.func83 c83_ok hl h
/-! 84: tabular/deci.made -/
def c84_15:ACode := .seq (.ops [ oq 6 (.mv (.v (.int .i64 0))),oq 7 (.mv (.v (.bool false)))]) (.seq (.seq (.ops [ oq 8 (.mv (.t 1)),oq 9 (.bin .gtr (.t 8) (.v (.int .u64 0))),oq 10 (.mv (.t 9)),⟨some 11,some (10,false),.q (.mv (.t 2)),[]⟩,⟨some 12,some (10,false),.q (.bin .gtr (.t 11) (.v (.int .u64 999999999999999999))),[]⟩,oq 13 (.pick (.t 10) (.v (.bool true)) (.t 12))]) (.cond (.t 13) (.seq (.ops [ oq 6 (.mv (.v (.int .i64 0))),oq 7 (.mv (.v (.bool false)))]) .ret) .skip)) (.seq (.seq (.ops [ oq 14 (.mv (.t 0))]) (.cond (.t 14) (.seq (.ops [ oq 15 (.mv (.t 2)),oq 16 (.conv .i64 (.t 15)),oq 17 (.un .neg (.t 16)),oq 6 (.mv (.t 17)),oq 7 (.mv (.v (.bool true)))]) .ret) .skip)) (.seq (.ops [ oq 18 (.mv (.t 2)),oq 19 (.conv .i64 (.t 18)),oq 6 (.mv (.t 19)),oq 7 (.mv (.v (.bool true)))]) .ret)))
@[go_sem] def c84_15_wp:=wp_of c84_15.eq_1
def c84:AFn:=⟨20,[.t 6,.t 7],c84_15⟩
theorem c84_ok:compF Tryz.prog Tryz.f84=some c84:=by kernel_rfl
theorem a84 {args:List AV} {σ:ASt} {R:AV->ASt->Prop} (hl:args.length<=20) (h:c84_15.wp Tryz.prog (RetQ [.t 6,.t 7] R) (init args) σ):ACalls Tryz.prog 84 args σ R:=acalls_of Tryz.func84 c84_ok hl h
/-! 143: internal/stringslite.Cut -/
def c143_11:ACode := .seq (.ops [ oq 4 (.mv (.v (.str []))),oq 5 (.mv (.v (.str []))),oq 6 (.mv (.v (.bool false)))]) (.seq (.seq (.ops [ oq 8 (.mv (.t 0)),oq 9 (.mv (.t 1)),oe 10 (.call 165 [(.t 8),(.t 9)]),oq 7 (.mv (.t 10))]) (.seq (.ops [ oq 11 (.mv (.t 7)),oq 12 (.bin .geq (.t 11) (.v (.int .i64 0)))]) (.cond (.t 12) (.seq (.ops [ oq 13 (.mv (.t 0)),oq 14 (.mv (.t 7)),oq 15 (.slto (true,0) (.t 13) (.t 14)),oq 16 (.mv (.t 0)),oq 17 (.mv (.t 7)),oq 18 (.mv (.t 1)),oq 19 (.lenS (.t 18)),oq 20 (.bin .add (.t 17) (.t 19)),oq 21 (.slfrom (true,0) (.t 16) (.t 20)),oq 4 (.mv (.t 15)),oq 5 (.mv (.t 21)),oq 6 (.mv (.v (.bool true)))]) .ret) .skip))) (.seq (.ops [ oq 22 (.mv (.t 0)),oq 4 (.mv (.t 22)),oq 5 (.mv (.v (.str []))),oq 6 (.mv (.v (.bool false)))]) .ret))
@[go_sem] def c143_11_wp:=wp_of c143_11.eq_1
def c143:AFn:=⟨23,[.t 4,.t 5,.t 6],c143_11⟩
theorem c143_ok:compF Tryz.prog Tryz.f143=some c143:=by kernel_rfl
theorem a143 {args:List AV} {σ:ASt} {R:AV->ASt->Prop} (hl:args.length<=23) (h:c143_11.wp Tryz.prog (RetQ [.t 4,.t 5,.t 6] R) (init args) σ):ACalls Tryz.prog 143 args σ R:=acalls_of Tryz.func143 c143_ok hl h
end Go.A
namespace Go.A
open Go.Proofs Go.Shelf Go.RowKit Go.Sort
theorem cutPrefix_ok (s p:List UInt8):Pure Tryz.prog 82 [.str s,.str p] (.tuple [.str (Lib.trimPrefix s p),.bool (Lib.hasPrefix s p)]):=by
 intro σ
 refine ACalls.of_ext (u := .tuple #[.string ⟨(Lib.trimPrefix s p).toArray⟩,.bool (Lib.hasPrefix s p)]) (fun w vs hs ha=>?_) fun w => .tuple (.cons (.str _) (.cons (.bool _) .nil))
 cases ha with
 | cons h1 h2=>
 cases h2 with
 | cons h2 h3=>
 cases h1;cases h2;cases h3
 exact (Tryz.strings_CutPrefix ⟨⟨s⟩⟩ ⟨⟨p⟩⟩ w).mono fun e w' ⟨he,hw⟩=>⟨he,Ext.of_eq hw⟩
theorem sindex_ok (s:List UInt8) (c:UInt8):Pure Tryz.prog 165 [.str s,.str [c]] (.int .i64 (Lib.indexByte s c)):=by
 intro σ
 refine ACalls.of_ext (u := .int .i64 (Lib.indexByte s c)) (fun w vs hs ha=>?_) fun w => .int _ _
 cases ha with
 | cons h1 h2=>
 cases h2 with
 | cons h2 h3=>
 cases h1;cases h2;cases h3
 exact (Tryz.stringslite_Index_one ⟨⟨s⟩⟩ c w).mono fun e w' ⟨he,hw⟩=>⟨he,Ext.of_eq hw⟩
theorem cutc_ok (l:List UInt8) (c:UInt8) (hl:l.length<=1000000000):Pure Tryz.prog 83 [.str l,.str [c]] (.tuple [.str (Lib.cut l [c]).1,.str (Lib.cut l [c]).2.1,.bool (Lib.cut l [c]).2.2]):=by
 have h1:Pure Tryz.prog 143 [.str l,.str [c]] (.tuple [.str (Lib.cut l [c]).1,.str (Lib.cut l [c]).2.1,.bool (Lib.cut l [c]).2.2]):=by
  intro σ
  have hi:=sindex_ok l c
  have hr:=Lib.index_room l [c]
  unfold Lib.cut
  rw [Lib.index_one] at hr ⊢
  have hg:=Lib.indexByte_ge l c
  refine a143 (by simp) ?_
  by_cases h0:0<=Lib.indexByte l c
  ·obtain ⟨i,e⟩:∃ i:Nat,Lib.indexByte l c=i:=⟨(Lib.indexByte l c).toNat,by omega⟩
   rw [e] at hi hr ⊢
   have hr:=hr (by omega)
   simp only [List.length_cons,List.length_nil] at hr
   rw [if_pos (by omega)]
   have e1:(0:Int)<=i:=by omega
   have e2:((i:Int)+1).toNat=i+1:=by omega
   have e3:(i:Int)<=l.length:=by omega
   have e4:(i:Int)+1<=l.length:=by omega
   simp (disch:=first|assumption|omega|(simp only [List.length_append,List.length_cons,List.length_nil];omega)) only [go_sem]
   refine hi.use ?_
   simp (disch:=first|assumption|omega|(simp only [List.length_append,List.length_cons,List.length_nil];omega)) only [go_sem,e1,e2,e3,e4,List.take_length]
   exact retC_by (by repeat' (first|exact Drop.refl _|with_reducible refine Drop.off ?_ (by assumption))) (.refl _) ⟨rfl,rfl⟩
  ·have e:Lib.indexByte l c = -1:=by omega
   rw [e] at hi ⊢
   rw [if_neg (by omega)]
   simp (disch:=first|assumption|omega|(simp only [List.length_append,List.length_cons,List.length_nil];omega)) only [go_sem]
   refine hi.use ?_
   simp (disch:=first|assumption|omega|(simp only [List.length_append,List.length_cons,List.length_nil];omega)) only [go_sem]
   exact retC_by (by repeat' (first|exact Drop.refl _|with_reducible refine Drop.off ?_ (by assumption))) (.refl _) ⟨rfl,rfl⟩
 intro σ
 refine a83 (by simp) ?_
 simp (disch:=first|assumption|omega|(simp only [List.length_append,List.length_cons,List.length_nil];omega)) only [go_sem]
 refine h1.use ?_
 simp (disch:=first|assumption|omega|(simp only [List.length_append,List.length_cons,List.length_nil];omega)) only [go_sem]
 exact retC_by (by repeat' (first|exact Drop.refl _|with_reducible refine Drop.off ?_ (by assumption))) (.refl _) ⟨rfl,rfl⟩
end Go.A
namespace Go.A
open Go.Proofs Go.Lib
structure RM (σ0:ASt) (d:Nat) (D:Dsk) (σ:ASt) (B cB:Nat) (rB:List AV) (fv:AV) (I cI:Nat) (rI:List AV):Prop where
 lm:LM σ d D B cB rB fv I cI rI
 z1:σ0 d=none
 out:∀ x,x≠d->σ0 x=σ x\/σ0 x=none
end Go.A
namespace Go.A
open Go.Proofs Go.Lib
section
variable {σ0 σ:ASt} {d B cB F I cI:Nat} {D:Dsk} {rB rI:List AV} {fv:AV}
theorem DM.setx (h:DM σ0 d D σ B cB rB fv F I cI rI) {x:Nat} (r:Option Role) (h1:x≠d) (h2:x≠B) (h3:x≠I) (h4:x≠F):DM (σ0.set x r) d D (σ.set x r) B cB rB fv F I cI rI:=by
 refine ⟨?_,?_,?_,h.cB,h.cI,?_,h.n1,h.n2,h.n3,?_,?_,?_,?_⟩
 ·rw [ASt.set_ne (Ne.symm h1)];exact h.hd
 ·rw [ASt.set_ne (Ne.symm h2)];exact h.hB
 ·rw [ASt.set_ne (Ne.symm h3)];exact h.hI
 ·rcases h.hF with ⟨x1,x2,x3⟩|⟨cF,rF,x1,x2,x3,x4,x5,x6,x7,x8⟩
  ·exact .inl ⟨x1,x2,x3⟩
  ·exact .inr ⟨cF,rF,x1,by rw [ASt.set_ne (Ne.symm h4)];exact x2,x3,x4,x5,x6,x7,by rw [ASt.set_ne (Ne.symm h4)];exact x8⟩
 ·rw [ASt.set_ne (Ne.symm h1)];exact h.z1
 ·rw [ASt.set_ne (Ne.symm h2)];exact h.z2
 ·rw [ASt.set_ne (Ne.symm h3)];exact h.z3
 ·intro y y1 y2 y3 y4
  by_cases hy:y=x
  ·rw [hy,ASt.set_same,ASt.set_same];exact .inl rfl
  ·rw [ASt.set_ne hy,ASt.set_ne hy];exact h.out y y1 y2 y3 y4
end
theorem DiskAt.add {σ0 σ:ASt} {d:Nat} {D:Dsk} (h:DiskAt σ0 d D σ) {x:Nat} (r:Option Role) (hx:σ x=none):DiskAt (σ0.set x r) d D (σ.set x r):=by
 obtain ⟨B,cB,rB,fv,F,I,cI,rI,h⟩:=h
 obtain ⟨h1,h2,h3,h4,_⟩:=h.low hx
 exact ⟨B,cB,rB,fv,F,I,cI,rI,h.setx r h1 h2 h3 h4⟩
theorem DiskAt.put {σ0 σ:ASt} {d:Nat} {D:Dsk} (h:DiskAt σ0 d D σ) {x:Nat} {q:Role} (r:Option Role) (hx:σ0 x=some q):DiskAt (σ0.set x r) d D (σ.set x r):=by
 obtain ⟨B,cB,rB,fv,F,I,cI,rI,h⟩:=h
 have hne:∀ y,σ0 y=none->x≠y:=fun y hy he=>by rw [he,hy] at hx;cases hx
 exact ⟨B,cB,rB,fv,F,I,cI,rI,h.setx r (hne _ h.z1) (hne _ h.z2) (hne _ h.z3) (hne _ h.zF)⟩
theorem DiskAt.gone {σ0 σ:ASt} {d:Nat} {D:Dsk} (h:DiskAt σ0 d D σ) {x:Nat} (hx:σ x=none):σ0 x=none:=by
 obtain ⟨B,cB,rB,fv,F,I,cI,rI,h⟩:=h
 exact (h.low hx).2.2.2.2
end Go.A
end
