/- Part 6 of what TextsCalls leans on: CodeJm Jm Hg CodeJo CodeJp Jp CodeHv Hv Hzb Hta Htd Ya Ua CodeUb Ub CodeUc Uc CodeUd. -/
import Derived.Test.YtoodoaekmeeheaaGreatDoorProg
import Derived.KernelRfl
import Derived.Lib.ValidLaws
import Derived.Test.YtoodoaekmeeheaaGreatDoorZTextsCallse
set_option linter.defProp false
set_option linter.unusedSimpArgs false
set_option linter.unusedVariables false
set_option maxRecDepth 100000
namespace Go.A
open Go.Proofs
/-! 21: tabular/tabularref15.Fail -/
def c21_3:ACode := .seq (.ops [ oe 2 (.alloc [(.int .i64 0),(.int .i64 0),(.str [])])]) (.seq (.ops [ oq 3 (.mv (.t 0)),oq 4 (.build [(.int .i64 0),(.int .i64 0),(.str [])] [(0,1,(.v (.int .i64 4))),(1,1,(.t 3))]),oz (.store 3 (.t 2) (.t 4))]) .ret)
@[go_sem] def c21_3_wp:=wp_of c21_3.eq_1
def c21:AFn:=⟨5,[.c 2 (some 3)],c21_3⟩
theorem c21_ok:compF Tryz.prog Tryz.f21=some c21:=by kernel_rfl
theorem a21 {args:List AV} {σ:ASt} {R:AV->ASt->Prop} (hl:args.length<=5) (h:c21_3.wp Tryz.prog (RetQ [.c 2 (some 3)] R) (init args) σ):ACalls Tryz.prog 21 args σ R:=acalls_of Tryz.func21 c21_ok hl h
/-! 22: tabular/tabularref15.Text -/
def c22_3:ACode := .seq (.ops [ oe 2 (.alloc [(.int .i64 0),(.int .i64 0),(.str [])])]) (.seq (.ops [ oq 3 (.mv (.t 0)),oq 4 (.build [(.int .i64 0),(.int .i64 0),(.str [])] [(0,1,(.v (.int .i64 2))),(2,1,(.t 3))]),oz (.store 3 (.t 2) (.t 4))]) .ret)
@[go_sem] def c22_3_wp:=wp_of c22_3.eq_1
def c22:AFn:=⟨5,[.c 2 (some 3)],c22_3⟩
theorem c22_ok:compF Tryz.prog Tryz.f22=some c22:=by kernel_rfl
theorem a22 {args:List AV} {σ:ASt} {R:AV->ASt->Prop} (hl:args.length<=5) (h:c22_3.wp Tryz.prog (RetQ [.c 2 (some 3)] R) (init args) σ):ACalls Tryz.prog 22 args σ R:=acalls_of Tryz.func22 c22_ok hl h
/-! 31: tabular/tabularref15.Num -/
def c31_3:ACode := .seq (.ops [ oe 2 (.alloc [(.int .i64 0),(.int .i64 0),(.str [])])]) (.seq (.ops [ oq 3 (.mv (.t 0)),oq 4 (.build [(.int .i64 0),(.int .i64 0),(.str [])] [(0,1,(.v (.int .i64 1))),(1,1,(.t 3))]),oz (.store 3 (.t 2) (.t 4))]) .ret)
@[go_sem] def c31_3_wp:=wp_of c31_3.eq_1
def c31:AFn:=⟨5,[.c 2 (some 3)],c31_3⟩
theorem c31_ok:compF Tryz.prog Tryz.f31=some c31:=by kernel_rfl
theorem a31 {args:List AV} {σ:ASt} {R:AV->ASt->Prop} (hl:args.length<=5) (h:c31_3.wp Tryz.prog (RetQ [.c 2 (some 3)] R) (init args) σ):ACalls Tryz.prog 31 args σ R:=acalls_of Tryz.func31 c31_ok hl h
/-! 39: tabular/tabularref15.Bool -/
def c39_9:ACode := .seq (.ops [ oe 2 (.alloc [(.int .i64 0),(.int .i64 0),(.str [])])]) (.seq (.seq (.ops [ oq 3 (.mv (.t 0))]) (.cond (.t 3) (.seq (.ops [ oq 4 (.build [(.int .i64 0),(.int .i64 0),(.str [])] [(0,1,(.v (.int .i64 3))),(1,1,(.v (.int .i64 1)))]),oz (.store 3 (.t 2) (.t 4))]) .ret) .skip)) (.seq (.ops [ oq 5 (.build [(.int .i64 0),(.int .i64 0),(.str [])] [(0,1,(.v (.int .i64 3)))]),oz (.store 3 (.t 2) (.t 5))]) .ret))
@[go_sem] def c39_9_wp:=wp_of c39_9.eq_1
def c39:AFn:=⟨6,[.c 2 (some 3)],c39_9⟩
theorem c39_ok:compF Tryz.prog Tryz.f39=some c39:=by kernel_rfl
theorem a39 {args:List AV} {σ:ASt} {R:AV->ASt->Prop} (hl:args.length<=6) (h:c39_9.wp Tryz.prog (RetQ [.c 2 (some 3)] R) (init args) σ):ACalls Tryz.prog 39 args σ R:=acalls_of Tryz.func39 c39_ok hl h
end Go.A
section
attribute [local go_sem] reduceCtorEq Nat.reduceEqDiff Nat.reduceAdd Nat.reduceSub Nat.reduceMul Nat.reduceLeDiff Int.reduceLT Int.reduceLE Int.reduceEq Int.reduceNeg Int.reduceAdd Int.reduceSub Int.reduceMul true_imp_iff forall_const Nat.mul_one Int.reduceToNat Nat.reducePow Int.reducePow Bool.true_and Bool.false_and Bool.and_false
attribute [local go_sem ↓] reduceIte
namespace Go.A
open Go.Proofs Go.Lib
theorem rNum_ok (n:Int):Pure Tryz.prog 31 [.int .i64 n] (tellAV (.num n)):=by
 intro σ
 refine a31 (by simp) ?_
 simp (disch:=first|assumption|omega|(simp only [List.length_append,List.length_cons,List.length_nil];omega)) only [go_sem]
 refine allocC_by fun b hb=>?_
 simp (disch:=first|assumption|omega|(simp only [List.length_append,List.length_cons,List.length_nil];omega)) only [go_sem]
 exact retC_by (by repeat' (first|exact Drop.refl _|with_reducible refine Drop.off ?_ (by assumption))) (.refl _) ⟨rfl,rfl⟩
theorem rText_ok (s:List UInt8):Pure Tryz.prog 22 [.str s] (tellAV (.text s)):=by
 intro σ
 refine a22 (by simp) ?_
 simp (disch:=first|assumption|omega|(simp only [List.length_append,List.length_cons,List.length_nil];omega)) only [go_sem]
 refine allocC_by fun b hb=>?_
 simp (disch:=first|assumption|omega|(simp only [List.length_append,List.length_cons,List.length_nil];omega)) only [go_sem]
 exact retC_by (by repeat' (first|exact Drop.refl _|with_reducible refine Drop.off ?_ (by assumption))) (.refl _) ⟨rfl,rfl⟩
theorem rBool_ok (b:Bool):Pure Tryz.prog 39 [.bool b] (tellAV (.bool b)):=by
 intro σ
 refine a39 (by simp) ?_
 cases b<;>simp (disch:=first|assumption|omega|(simp only [List.length_append,List.length_cons,List.length_nil];omega)) only [go_sem]
 all_goals
  refine allocC_by fun c hc=>?_
  simp (disch:=first|assumption|omega|(simp only [List.length_append,List.length_cons,List.length_nil];omega)) only [go_sem]
  exact retC_by (by repeat' (first|exact Drop.refl _|with_reducible refine Drop.off ?_ (by assumption))) (.refl _) ⟨rfl,rfl⟩
theorem rFail_ok (n:Int) (h0 : -9223372036854775808<=n) (h1:n<=9223372036854775807):Pure Tryz.prog 21 [.int .i64 n] (tellAV (.fail n)):=by
 intro σ
 refine a21 (by simp) ?_
 simp (disch:=first|assumption|omega|(simp only [List.length_append,List.length_cons,List.length_nil];omega)) only [go_sem]
 refine allocC_by fun b hb=>?_
 simp (disch:=first|assumption|omega|(simp only [List.length_append,List.length_cons,List.length_nil];omega)) only [go_sem]
 exact retC_by (by repeat' (first|exact Drop.refl _|with_reducible refine Drop.off ?_ (by assumption))) (.refl _) ⟨rfl,rfl⟩
end Go.A
namespace Go.A
open Go.Proofs
theorem unit_no {p:Int} (h:4<=p):Pure Tryz.prog 133 [.int .i64 p] (.tuple [.int .u64 0,.bool false]):=by
 intro σ
 refine a133 (by simp) ?_
 simp (disch:=first|assumption|omega|(simp only [List.length_append,List.length_cons,List.length_nil];omega)) only [go_sem,h]
 exact retC_by (Drop.refl _) (.refl _) ⟨rfl,rfl⟩
theorem round_no {a p:Int} (h:4<=p):Pure Tryz.prog 110 [.int .i64 a,.int .i64 p] (resAV (some a)):=by
 intro σ
 have g1:¬ p < -14:=by omega
 refine a110 (by simp) ?_
 simp (disch:=first|assumption|omega|(simp only [List.length_append,List.length_cons,List.length_nil];omega)) only [go_sem,g1]
 refine (unit_no h).use ?_
 simp (disch:=first|assumption|omega|(simp only [List.length_append,List.length_cons,List.length_nil];omega)) only [go_sem]
 exact retC_by (by repeat' (first|exact Drop.refl _|with_reducible refine Drop.off ?_ (by assumption))) (.refl _) ⟨rfl,rfl⟩
theorem roundP_one {a:Int} (ha:a.natAbs<=999999999999999999):roundP a 1=some a:=by
 have e:rndN a.natAbs 1=a.natAbs:=by unfold rndN;rw [Nat.mod_one];rfl
 unfold roundP madeP
 rw [e,if_pos ha]
 congr 1
 simp only [decide_eq_true_eq]
 split<;>omega
theorem round_ok4 {σ:ASt} (hT:Tens σ) {a p:Int} (ha:a.natAbs<=999999999999999999) (h0:0<=p) (h1:p<=4):ACalls Tryz.prog 110 [.int .i64 a,.int .i64 p] σ fun v σ'=>v=resAV (roundP a (10 ^ (4-p).toNat))/\σ'=σ:=by
 by_cases h:p=4
 ·subst h
  rw [show 10 ^ ((4:Int)-4).toNat=1 by decide,roundP_one ha]
  exact round_no (by omega) σ
 ·exact round_ok hT ha (by omega) (by omega)
end Go.A
namespace Go.A
open Go.Proofs
/-! 14: tabular/value.Show -/
def c14_13:ACode := .seq (.ops [ oq 2 (.mv (.v (.str [])))]) (.seq (.seq (.ops [ oq 8 (.mv (.t 0)),oe 9 (.call 44 [(.t 8)]),oq 7 (.mv (.t 9)),oq 10 (.ext 0 (.t 7)),oq 11 (.ext 1 (.t 7)),oq 3 (.mv (.t 10)),oq 4 (.mv (.t 11))]) (.seq (.ops [ oq 12 (.mv (.t 4))]) (.cond (.t 12) (.seq (.ops [ oe 13 (.call 45 []),oq 14 (.mv (.t 3)),oq 15 (.bin .sub (.t 14) (.v (.int .i64 1))),oq 16 (.ia 1 (.t 13) (.t 15)),oq 17 (.ld none (.t 16)),oq 2 (.mv (.t 17))]) .ret) .skip))) (.seq (.ops [ oq 19 (.mv (.t 0)),oe 20 (.call 46 [(.t 19)]),oq 18 (.mv (.t 20)),oq 21 (.ext 0 (.t 18)),oq 22 (.ext 1 (.t 18)),oq 5 (.mv (.t 21)),oq 6 (.mv (.t 22))]) (.seq (.ops [ oq 23 (.mv (.t 5)),oq 2 (.mv (.t 23))]) .ret)))
@[go_sem] def c14_13_wp:=wp_of c14_13.eq_1
def c14:AFn:=⟨24,[.t 2],c14_13⟩
theorem c14_ok:compF Tryz.prog Tryz.f14=some c14:=by kernel_rfl
theorem a14 {args:List AV} {σ:ASt} {R:AV->ASt->Prop} (hl:args.length<=24) (h:c14_13.wp Tryz.prog (RetQ [.t 2] R) (init args) σ):ACalls Tryz.prog 14 args σ R:=acalls_of Tryz.func14 c14_ok hl h
end Go.A
namespace Go.A
open Go.Proofs
/-! 9: tabular/tabularlaw15.Told -/
def c9_5:ACode := .seq (.ops [ oe 2 (.alloc [(.int .i64 0),(.int .i64 0),(.str [])])]) (.seq (.ops [ oq 4 (.mv (.t 0)),oe 5 (.call 17 [(.t 4)]),oe 3 (.alloc [(.int .i64 0),(.int .i64 0),(.str [])]),oz (.store 3 (.t 3) (.t 5))]) (.seq (.ops [ oq 6 (.fa 0 (.t 3)),oq 7 (.ld none (.t 6)),oq 8 (.fa 1 (.t 3)),oq 9 (.ld none (.t 8)),oq 10 (.fa 2 (.t 3)),oq 11 (.ld none (.t 10)),oq 12 (.build [(.int .i64 0),(.int .i64 0),(.str [])] [(0,1,(.t 7)),(1,1,(.t 9)),(2,1,(.t 11))]),oz (.store 3 (.t 2) (.t 12))]) .ret))
@[go_sem] def c9_5_wp:=wp_of c9_5.eq_1
def c9:AFn:=⟨13,[.c 2 (some 3)],c9_5⟩
theorem c9_ok:compF Tryz.prog Tryz.f9=some c9:=by kernel_rfl
theorem a9 {args:List AV} {σ:ASt} {R:AV->ASt->Prop} (hl:args.length<=13) (h:c9_5.wp Tryz.prog (RetQ [.c 2 (some 3)] R) (init args) σ):ACalls Tryz.prog 9 args σ R:=acalls_of Tryz.func9 c9_ok hl h
/-! 46: tabular/value.AsText -/
def c46_41:ACode := .seq (.ops [ oq 2 (.mv (.v (.str []))),oq 3 (.mv (.v (.int .i64 0)))]) (.seq (.seq (.ops [ oq 8 (.mv (.t 0))]) (.block 0 (.seq (.ops [ oq 9 (.ta 88 (.int .i64 0) true (.t 8)),oq 10 (.ext 1 (.t 9)),oq 11 (.ext 0 (.t 9))]) (.cond (.t 10) (.seq (.ops [ oq 4 (.mv (.t 11))]) (.seq (.ops [ oq 12 (.mv (.t 4)),oe 13 (.call 74 [(.t 12)]),oq 2 (.mv (.t 13)),oq 3 (.mv (.v (.int .i64 0)))]) .ret)) (.seq (.ops [ oq 14 (.ta 90 (.bool false) true (.t 8)),oq 15 (.ext 1 (.t 14)),oq 16 (.ext 0 (.t 14))]) (.cond (.t 15) (.seq (.ops [ oq 5 (.mv (.t 16))]) (.seq (.seq (.ops [ oq 17 (.mv (.t 5))]) (.cond (.t 17) (.seq (.ops [ oq 2 (.mv (.v (.str [84,82,85,69]))),oq 3 (.mv (.v (.int .i64 0)))]) .ret) .skip)) (.seq (.ops [ oq 2 (.mv (.v (.str [70,65,76,83,69]))),oq 3 (.mv (.v (.int .i64 0)))]) .ret))) (.seq (.ops [ oq 18 (.ta 89 (.str []) true (.t 8)),oq 19 (.ext 1 (.t 18)),oq 20 (.ext 0 (.t 18))]) (.cond (.t 19) (.seq (.ops [ oq 6 (.mv (.t 20))]) (.seq (.ops [ oq 21 (.mv (.t 6)),oq 2 (.mv (.t 21)),oq 3 (.mv (.v (.int .i64 0)))]) .ret)) (.seq (.ops [ oq 22 (.ta 46 (.int .i64 0) true (.t 8)),oq 23 (.ext 1 (.t 22)),oq 24 (.ext 0 (.t 22))]) (.cond (.t 23) (.seq (.ops [ oq 7 (.mv (.t 24))]) (.seq (.ops [ oq 25 (.mv (.t 7)),oq 2 (.mv (.v (.str []))),oq 3 (.mv (.t 25))]) .ret)) .skip)))))))))) (.seq (.ops [ oq 2 (.mv (.v (.str []))),oq 3 (.mv (.v (.int .i64 0)))]) .ret))
@[go_sem] def c46_41_wp:=wp_of c46_41.eq_1
def c46:AFn:=⟨26,[.t 2,.t 3],c46_41⟩
theorem c46_ok:compF Tryz.prog Tryz.f46=some c46:=by kernel_rfl
theorem a46 {args:List AV} {σ:ASt} {R:AV->ASt->Prop} (hl:args.length<=26) (h:c46_41.wp Tryz.prog (RetQ [.t 2,.t 3] R) (init args) σ):ACalls Tryz.prog 46 args σ R:=acalls_of Tryz.func46 c46_ok hl h
/-! 78: tabular/value.Join -/
def c78_19:ACode := .seq (.ops [ oq 4 (.mv (.v .nili))]) (.seq (.ops [ oq 9 (.mv (.t 0)),oe 10 (.call 46 [(.t 9)]),oq 8 (.mv (.t 10)),oq 11 (.ext 0 (.t 8)),oq 12 (.ext 1 (.t 8)),oq 5 (.mv (.t 11)),oq 6 (.mv (.t 12))]) (.seq (.seq (.ops [ oq 13 (.mv (.t 6)),oq 14 (.bin .neq (.t 13) (.v (.int .i64 0)))]) (.cond (.t 14) (.seq (.ops [ oq 15 (.mv (.t 6)),oq 16 (.mki 46 (.t 15)),oq 4 (.mv (.t 16))]) .ret) .skip)) (.seq (.ops [ oq 18 (.mv (.t 1)),oe 19 (.call 46 [(.t 18)]),oq 17 (.mv (.t 19)),oq 20 (.ext 0 (.t 17)),oq 21 (.ext 1 (.t 17)),oq 7 (.mv (.t 20)),oq 6 (.mv (.t 21))]) (.seq (.seq (.ops [ oq 22 (.mv (.t 6)),oq 23 (.bin .neq (.t 22) (.v (.int .i64 0)))]) (.cond (.t 23) (.seq (.ops [ oq 24 (.mv (.t 6)),oq 25 (.mki 46 (.t 24)),oq 4 (.mv (.t 25))]) .ret) .skip)) (.seq (.ops [ oq 26 (.mv (.t 5)),oq 27 (.mv (.t 7)),oq 28 (.bin .add (.t 26) (.t 27)),oe 29 (.call 77 [(.t 28)]),oq 4 (.mv (.t 29))]) .ret)))))
@[go_sem] def c78_19_wp:=wp_of c78_19.eq_1
def c78:AFn:=⟨30,[.t 4],c78_19⟩
theorem c78_ok:compF Tryz.prog Tryz.f78=some c78:=by kernel_rfl
theorem a78 {args:List AV} {σ:ASt} {R:AV->ASt->Prop} (hl:args.length<=30) (h:c78_19.wp Tryz.prog (RetQ [.t 4] R) (init args) σ):ACalls Tryz.prog 78 args σ R:=acalls_of Tryz.func78 c78_ok hl h
end Go.A
namespace Go.A
open Go.Proofs Go.Lib
def PV.good:PV->Prop
 | .num n=>n.natAbs<=999999999999999999
 | .fail n=>1<=n/\n<=7
 | _=>True
def asTextP:PV->List UInt8×Int
 | .blank=>([],0)
 | .num n=>(textD n,0)
 | .text s=>(s,0)
 | .bool b=>(if b=true then [84,82,85,69] else [70,65,76,83,69],0)
 | .fail f=>([],f)
theorem asText_ok {σ:ASt} (hT:Tab σ) (v:PV) (hv:v.good):ACalls Tryz.prog 46 [v.av] σ fun r σ'=>r = .tuple [.str (asTextP v).1,.int .i64 (asTextP v).2]/\σ'=σ:=by
 refine a46 (by simp) ?_
 cases v with
 | num n=>
   have hD:=dtext_ok hT hv
   simp only [PV.av,asTextP]
   simp (disch:=first|assumption|omega|(simp only [List.length_append,List.length_cons,List.length_nil];omega)) only [go_sem]
   refine hD.mono ?_
   rintro v σ' ⟨rfl,rfl⟩
   simp (disch:=first|assumption|omega|(simp only [List.length_append,List.length_cons,List.length_nil];omega)) only [go_sem]
   exact retC_by (by repeat' (first|exact Drop.refl _|with_reducible refine Drop.off ?_ (by assumption))) (.refl _) ⟨rfl,rfl⟩
 | bool b=>
   cases b<;>simp only [PV.av,asTextP]<;>simp (disch:=first|assumption|omega|(simp only [List.length_append,List.length_cons,List.length_nil];omega)) only [go_sem]
   all_goals exact retC_by (by repeat' (first|exact Drop.refl _|with_reducible refine Drop.off ?_ (by assumption))) (.refl _) ⟨rfl,rfl⟩
 | blank=>
   simp only [PV.av,asTextP]
   simp (disch:=first|assumption|omega|(simp only [List.length_append,List.length_cons,List.length_nil];omega)) only [go_sem]
   exact retC_by (by repeat' (first|exact Drop.refl _|with_reducible refine Drop.off ?_ (by assumption))) (.refl _) ⟨rfl,rfl⟩
 | text s=>
   simp only [PV.av,asTextP]
   simp (disch:=first|assumption|omega|(simp only [List.length_append,List.length_cons,List.length_nil];omega)) only [go_sem]
   exact retC_by (by repeat' (first|exact Drop.refl _|with_reducible refine Drop.off ?_ (by assumption))) (.refl _) ⟨rfl,rfl⟩
 | fail s=>
   simp only [PV.av,asTextP]
   simp (disch:=first|assumption|omega|(simp only [List.length_append,List.length_cons,List.length_nil];omega)) only [go_sem]
   exact retC_by (by repeat' (first|exact Drop.refl _|with_reducible refine Drop.off ?_ (by assumption))) (.refl _) ⟨rfl,rfl⟩
end Go.A
namespace Go.A
open Go.Proofs
/-! 27: tabular/tabularref01.Fixed -/
def c27_18:ACode := .seq (.seq (.ops [ oq 27 (.mv (.t 8)),oq 28 (.lenS (.t 27)),oq 29 (.bin .lss (.t 28) (.v (.int .i64 5)))]) (.cond (.t 29) .skip (.exit 0))) (.block 1 (.ops [ oq 30 (.mv (.t 8)),oq 31 (.bin .add (.v (.str [48])) (.t 30)),oq 8 (.mv (.t 31))]))
def c27_32:ACode := .seq (.seq (.ops [ oq 52 (.mv (.t 6)),oq 53 (.bin .lss (.t 52) (.v (.int .i64 0)))]) (.cond (.t 53) (.ops [ oq 54 (.mv (.t 9)),oq 55 (.bin .add (.v (.str [45])) (.t 54)),oq 9 (.mv (.t 55))]) .skip)) (.seq (.ops [ oq 56 (.mv (.t 9)),oq 4 (.mv (.t 56)),oq 5 (.mv (.v (.bool true)))]) .ret)
def c27_40:ACode := .seq (.ops [ oq 4 (.mv (.v (.str []))),oq 5 (.mv (.v (.bool false)))]) (.seq (.seq (.ops [ oq 10 (.mv (.t 1)),oq 11 (.bin .lss (.t 10) (.v (.int .i64 0))),oq 12 (.mv (.t 11)),⟨some 13,some (12,false),.q (.mv (.t 1)),[]⟩,⟨some 14,some (12,false),.q (.bin .gtr (.t 13) (.v (.int .i64 4))),[]⟩,oq 15 (.pick (.t 12) (.v (.bool true)) (.t 14))]) (.cond (.t 15) (.seq (.ops [ oq 4 (.mv (.v (.str []))),oq 5 (.mv (.v (.bool false)))]) .ret) .skip)) (.seq (.ops [ oq 17 (.mv (.t 0)),oq 18 (.mv (.t 1)),oe 19 (.call 67 [(.t 17),(.t 18)]),oq 16 (.mv (.t 19)),oq 20 (.ext 0 (.t 16)),oq 21 (.ext 1 (.t 16)),oq 6 (.mv (.t 20)),oq 7 (.mv (.t 21))]) (.seq (.seq (.ops [ oq 22 (.mv (.t 7)),oq 23 (.un .not (.t 22))]) (.cond (.t 23) (.seq (.ops [ oq 4 (.mv (.v (.str []))),oq 5 (.mv (.v (.bool false)))]) .ret) .skip)) (.seq (.ops [ oq 24 (.mv (.t 6)),oe 25 (.call 69 [(.t 24)]),oe 26 (.call 68 [(.t 25)]),oq 8 (.mv (.t 26))]) (.seq (.block 0 (.loop c27_18)) (.seq (.ops [ oq 32 (.mv (.t 8)),oq 33 (.mv (.t 8)),oq 34 (.lenS (.t 33)),oq 35 (.bin .sub (.t 34) (.v (.int .i64 4))),oq 36 (.slto (true,0) (.t 32) (.t 35)),oq 9 (.mv (.t 36))]) (.seq (.seq (.ops [ oq 37 (.mv (.t 1)),oq 38 (.bin .gtr (.t 37) (.v (.int .i64 0)))]) (.cond (.t 38) (.ops [ oq 39 (.mv (.t 9)),oq 40 (.mv (.t 8)),oq 41 (.mv (.t 8)),oq 42 (.lenS (.t 41)),oq 43 (.bin .sub (.t 42) (.v (.int .i64 4))),oq 44 (.mv (.t 8)),oq 45 (.lenS (.t 44)),oq 46 (.bin .sub (.t 45) (.v (.int .i64 4))),oq 47 (.mv (.t 1)),oq 48 (.bin .add (.t 46) (.t 47)),oq 49 (.sls (true,0) (.t 40) (.t 43) (.t 48)),oq 50 (.bin .add (.v (.str [46])) (.t 49)),oq 51 (.bin .add (.t 39) (.t 50)),oq 9 (.mv (.t 51))]) .skip)) c27_32)))))))
@[go_sem] def c27_18_wp:=wp_of c27_18.eq_1
@[go_sem] def c27_32_wp:=wp_of c27_32.eq_1
@[go_sem] def c27_40_wp:=wp_of c27_40.eq_1
def c27:AFn:=⟨57,[.t 4,.t 5],c27_40⟩
theorem c27_ok:compF Tryz.prog Tryz.f27=some c27:=by kernel_rfl
theorem a27 {args:List AV} {σ:ASt} {R:AV->ASt->Prop} (hl:args.length<=57) (h:c27_40.wp Tryz.prog (RetQ [.t 4,.t 5] R) (init args) σ):ACalls Tryz.prog 27 args σ R:=acalls_of Tryz.func27 c27_ok hl h
/-! 65: tabular/tabularref01.Parse -/
def c65_28:ACode := .seq (.seq (.ops [ oq 20 (.mv (.t 8)),oq 21 (.mv (.t 0)),oq 22 (.lenS (.t 21)),oq 23 (.bin .lss (.t 20) (.t 22))]) (.cond (.t 23) .skip (.exit 0))) (.seq (.block 1 (.seq (.ops [ oq 26 (.mv (.t 0)),oq 27 (.mv (.t 8)),oq 28 (.idx (.t 26) (.t 27)),oq 29 (.bin .eql (.t 28) (.v (.int .u8 46)))]) (.cond (.t 29) (.ops [ oq 30 (.mv (.t 7)),oq 31 (.bin .add (.t 30) (.v (.int .i64 1))),oq 7 (.mv (.t 31))]) (.seq (.ops [ oq 32 (.mv (.t 0)),oq 33 (.mv (.t 8)),oq 34 (.idx (.t 32) (.t 33)),oq 35 (.bin .lss (.t 34) (.v (.int .u8 48))),oq 36 (.mv (.t 35)),⟨some 37,some (36,false),.q (.mv (.t 0)),[]⟩,⟨some 38,some (36,false),.q (.mv (.t 8)),[]⟩,⟨some 39,some (36,false),.q (.idx (.t 37) (.t 38)),[]⟩,⟨some 40,some (36,false),.q (.bin .gtr (.t 39) (.v (.int .u8 57))),[]⟩,oq 41 (.pick (.t 36) (.v (.bool true)) (.t 40))]) (.cond (.t 41) (.seq (.ops [ oq 2 (.mv (.v (.int .i64 0))),oq 3 (.mv (.v (.bool false)))]) .ret) (.seq (.ops [ oq 42 (.mv (.t 7)),oq 43 (.bin .eql (.t 42) (.v (.int .i64 0)))]) (.cond (.t 43) (.ops [ oq 44 (.mv (.t 5)),oq 45 (.mv (.t 0)),oq 46 (.mv (.t 8)),oq 47 (.mv (.t 8)),oq 48 (.bin .add (.t 47) (.v (.int .i64 1))),oq 49 (.sls (true,0) (.t 45) (.t 46) (.t 48)),oq 50 (.bin .add (.t 44) (.t 49)),oq 5 (.mv (.t 50))]) (.ops [ oq 51 (.mv (.t 6)),oq 52 (.mv (.t 0)),oq 53 (.mv (.t 8)),oq 54 (.mv (.t 8)),oq 55 (.bin .add (.t 54) (.v (.int .i64 1))),oq 56 (.sls (true,0) (.t 52) (.t 53) (.t 55)),oq 57 (.bin .add (.t 51) (.t 56)),oq 6 (.mv (.t 57))])))))))) (.ops [ oq 24 (.mv (.t 8)),oq 25 (.bin .add (.t 24) (.v (.int .i64 1))),oq 8 (.mv (.t 25))]))
def c65_42:ACode := .seq (.seq (.ops [ oq 79 (.mv (.t 6)),oq 80 (.lenS (.t 79)),oq 81 (.bin .lss (.t 80) (.v (.int .i64 4)))]) (.cond (.t 81) .skip (.exit 2))) (.block 3 (.ops [ oq 82 (.mv (.t 6)),oq 83 (.bin .add (.t 82) (.v (.str [48]))),oq 6 (.mv (.t 83))]))
def c65_47:ACode := .seq (.block 2 (.loop c65_42)) (.seq (.ops [ oq 84 (.mv (.t 4)),oq 85 (.mv (.t 5)),oq 86 (.mv (.t 6)),oq 87 (.bin .add (.t 85) (.t 86)),oe 88 (.call 99 [(.t 87)]),oe 89 (.call 98 [(.t 84),(.t 88)]),oq 90 (.ext 0 (.t 89)),oq 91 (.ext 1 (.t 89)),oq 2 (.mv (.t 90)),oq 3 (.mv (.t 91))]) .ret)
def c65_48:ACode := .seq (.seq (.ops [ oq 58 (.mv (.t 7)),oq 59 (.bin .gtr (.t 58) (.v (.int .i64 1))),oq 60 (.mv (.t 59)),⟨some 61,some (60,false),.q (.mv (.t 5)),[]⟩,⟨some 62,some (60,false),.q (.lenS (.t 61)),[]⟩,⟨some 63,some (60,false),.q (.bin .eql (.t 62) (.v (.int .i64 0))),[]⟩,oq 64 (.pick (.t 60) (.v (.bool true)) (.t 63)),oq 65 (.mv (.t 64)),⟨some 66,some (65,false),.q (.mv (.t 7)),[]⟩,⟨some 67,some (65,false),.q (.bin .eql (.t 66) (.v (.int .i64 1))),[]⟩,⟨some 68,some (65,false),.q (.mv (.t 67)),[]⟩,⟨some 69,some (68,true),.q (.mv (.t 6)),[]⟩,⟨some 70,some (68,true),.q (.lenS (.t 69)),[]⟩,⟨some 71,some (68,true),.q (.bin .eql (.t 70) (.v (.int .i64 0))),[]⟩,⟨some 72,some (65,false),.q (.pick (.t 68) (.t 71) (.v (.bool false))),[]⟩,oq 73 (.pick (.t 65) (.v (.bool true)) (.t 72)),oq 74 (.mv (.t 73)),⟨some 75,some (74,false),.q (.mv (.t 6)),[]⟩,⟨some 76,some (74,false),.q (.lenS (.t 75)),[]⟩,⟨some 77,some (74,false),.q (.bin .gtr (.t 76) (.v (.int .i64 4))),[]⟩,oq 78 (.pick (.t 74) (.v (.bool true)) (.t 77))]) (.cond (.t 78) (.seq (.ops [ oq 2 (.mv (.v (.int .i64 0))),oq 3 (.mv (.v (.bool false)))]) .ret) .skip)) c65_47
def c65_50:ACode := .seq (.ops [ oq 5 (.mv (.v (.str []))),oq 6 (.mv (.v (.str []))),oq 7 (.mv (.v (.int .i64 0)))]) (.seq (.seq (.ops [ oq 8 (.mv (.v (.int .i64 0)))]) (.block 0 (.loop c65_28))) c65_48)
def c65_53:ACode := .seq (.ops [ oq 2 (.mv (.v (.int .i64 0))),oq 3 (.mv (.v (.bool false)))]) (.seq (.ops [ oq 9 (.mv (.t 0)),oq 10 (.lenS (.t 9)),oq 11 (.bin .gtr (.t 10) (.v (.int .i64 0))),oq 12 (.mv (.t 11)),⟨some 13,some (12,true),.q (.mv (.t 0)),[]⟩,⟨some 14,some (12,true),.q (.idx (.t 13) (.v (.int .i64 0))),[]⟩,⟨some 15,some (12,true),.q (.bin .eql (.t 14) (.v (.int .u8 45))),[]⟩,oq 16 (.pick (.t 12) (.t 15) (.v (.bool false))),oq 4 (.mv (.t 16))]) (.seq (.seq (.ops [ oq 17 (.mv (.t 4))]) (.cond (.t 17) (.ops [ oq 18 (.mv (.t 0)),oq 19 (.slfrom (true,0) (.t 18) (.v (.int .i64 1))),oq 0 (.mv (.t 19))]) .skip)) c65_50))
@[go_sem] def c65_28_wp:=wp_of c65_28.eq_1
@[go_sem] def c65_42_wp:=wp_of c65_42.eq_1
@[go_sem] def c65_47_wp:=wp_of c65_47.eq_1
@[go_sem] def c65_48_wp:=wp_of c65_48.eq_1
@[go_sem] def c65_50_wp:=wp_of c65_50.eq_1
@[go_sem] def c65_53_wp:=wp_of c65_53.eq_1
def c65:AFn:=⟨92,[.t 2,.t 3],c65_53⟩
theorem c65_ok:compF Tryz.prog Tryz.f65=some c65:=by kernel_rfl
theorem a65 {args:List AV} {σ:ASt} {R:AV->ASt->Prop} (hl:args.length<=92) (h:c65_53.wp Tryz.prog (RetQ [.t 2,.t 3] R) (init args) σ):ACalls Tryz.prog 65 args σ R:=acalls_of Tryz.func65 c65_ok hl h
/-! 67: tabular/tabularref01.Round -/
def c67_20:ACode := .seq (.seq (.ops [ oq 20 (.mv (.t 7)),oq 21 (.bin .lss (.t 20) (.v (.int .i64 4)))]) (.cond (.t 21) .skip (.exit 0))) (.seq (.block 1 (.ops [ oq 24 (.mv (.t 6)),oq 25 (.bin .add (.t 24) (.v (.str [48]))),oq 6 (.mv (.t 25))])) (.ops [ oq 22 (.mv (.t 7)),oq 23 (.bin .add (.t 22) (.v (.int .i64 1))),oq 7 (.mv (.t 23))]))
def c67_30:ACode := .seq (.ops [ oq 4 (.mv (.v (.int .i64 0))),oq 5 (.mv (.v (.bool false)))]) (.seq (.seq (.ops [ oq 8 (.mv (.t 1)),oq 9 (.bin .geq (.t 8) (.v (.int .i64 4)))]) (.cond (.t 9) (.seq (.ops [ oq 10 (.mv (.t 0)),oq 4 (.mv (.t 10)),oq 5 (.mv (.v (.bool true)))]) .ret) .skip)) (.seq (.seq (.ops [ oq 11 (.mv (.t 1)),oq 12 (.bin .lss (.t 11) (.v (.int .i64 (-14))))]) (.cond (.t 12) (.seq (.ops [ oq 4 (.mv (.v (.int .i64 0))),oq 5 (.mv (.v (.bool true)))]) .ret) .skip)) (.seq (.ops [ oq 13 (.mv (.t 0)),oe 14 (.call 69 [(.t 13)]),oe 15 (.call 68 [(.t 14)]),oq 16 (.mv (.t 1)),oq 17 (.bin .sub (.v (.int .i64 4)) (.t 16)),oe 18 (.call 100 [(.t 15),(.t 17)]),oq 6 (.mv (.t 18))]) (.seq (.seq (.ops [ oq 19 (.mv (.t 1)),oq 7 (.mv (.t 19))]) (.block 0 (.loop c67_20))) (.seq (.ops [ oq 26 (.mv (.t 0)),oq 27 (.bin .lss (.t 26) (.v (.int .i64 0))),oq 28 (.mv (.t 6)),oe 29 (.call 99 [(.t 28)]),oe 30 (.call 98 [(.t 27),(.t 29)]),oq 31 (.ext 0 (.t 30)),oq 32 (.ext 1 (.t 30)),oq 4 (.mv (.t 31)),oq 5 (.mv (.t 32))]) .ret)))))
@[go_sem] def c67_20_wp:=wp_of c67_20.eq_1
@[go_sem] def c67_30_wp:=wp_of c67_30.eq_1
def c67:AFn:=⟨33,[.t 4,.t 5],c67_30⟩
theorem c67_ok:compF Tryz.prog Tryz.f67=some c67:=by kernel_rfl
theorem a67 {args:List AV} {σ:ASt} {R:AV->ASt->Prop} (hl:args.length<=33) (h:c67_30.wp Tryz.prog (RetQ [.t 4,.t 5] R) (init args) σ):ACalls Tryz.prog 67 args σ R:=acalls_of Tryz.func67 c67_ok hl h
/-! 68: tabular/tabularref01.Digits -/
def c68_12:ACode := .seq (.seq (.ops [ oq 5 (.mv (.t 4)),oq 6 (.bin .lss (.t 5) (.v (.int .i64 20))),oq 7 (.mv (.t 6)),⟨some 8,some (7,true),.q (.mv (.t 4)),[]⟩,⟨some 9,some (7,true),.q (.bin .eql (.t 8) (.v (.int .i64 0))),[]⟩,⟨some 10,some (7,true),.q (.mv (.t 9)),[]⟩,⟨some 11,some (10,false),.q (.mv (.t 0)),[]⟩,⟨some 12,some (10,false),.q (.bin .gtr (.t 11) (.v (.int .u64 0))),[]⟩,⟨some 13,some (7,true),.q (.pick (.t 10) (.v (.bool true)) (.t 12)),[]⟩,oq 14 (.pick (.t 7) (.t 13) (.v (.bool false)))]) (.cond (.t 14) .skip (.exit 0))) (.seq (.block 1 (.seq (.ops [ oq 17 (.mv (.t 0)),oq 18 (.bin .rem (.t 17) (.v (.int .u64 10))),oq 19 (.bin .add (.v (.int .u64 48)) (.t 18)),oq 20 (.conv .u8 (.t 19)),oq 21 (.bsl 1 [(.t 20)]),oq 22 (.b2s (.t 21)),oq 23 (.mv (.t 3)),oq 24 (.bin .add (.t 22) (.t 23)),oq 3 (.mv (.t 24))]) (.ops [ oq 25 (.mv (.t 0)),oq 26 (.bin .quo (.t 25) (.v (.int .u64 10))),oq 0 (.mv (.t 26))]))) (.ops [ oq 15 (.mv (.t 4)),oq 16 (.bin .add (.t 15) (.v (.int .i64 1))),oq 4 (.mv (.t 16))]))
def c68_20:ACode := .seq (.ops [ oq 2 (.mv (.v (.str [])))]) (.seq (.ops [ oq 3 (.mv (.v (.str [])))]) (.seq (.seq (.ops [ oq 4 (.mv (.v (.int .i64 0)))]) (.block 0 (.loop c68_12))) (.seq (.ops [ oq 27 (.mv (.t 3)),oq 2 (.mv (.t 27))]) .ret)))
@[go_sem] def c68_12_wp:=wp_of c68_12.eq_1
@[go_sem] def c68_20_wp:=wp_of c68_20.eq_1
def c68:AFn:=⟨28,[.t 2],c68_20⟩
theorem c68_ok:compF Tryz.prog Tryz.f68=some c68:=by kernel_rfl
theorem a68 {args:List AV} {σ:ASt} {R:AV->ASt->Prop} (hl:args.length<=28) (h:c68_20.wp Tryz.prog (RetQ [.t 2] R) (init args) σ):ACalls Tryz.prog 68 args σ R:=acalls_of Tryz.func68 c68_ok hl h
/-! 69: tabular/tabularref01.Size -/
def c69_9:ACode := .seq (.ops [ oq 2 (.mv (.v (.int .u64 0)))]) (.seq (.seq (.ops [ oq 3 (.mv (.t 0)),oq 4 (.bin .lss (.t 3) (.v (.int .i64 0)))]) (.cond (.t 4) (.seq (.ops [ oq 5 (.mv (.t 0)),oq 6 (.bin .add (.t 5) (.v (.int .i64 1))),oq 7 (.un .neg (.t 6)),oq 8 (.conv .u64 (.t 7)),oq 9 (.bin .add (.t 8) (.v (.int .u64 1))),oq 2 (.mv (.t 9))]) .ret) .skip)) (.seq (.ops [ oq 10 (.mv (.t 0)),oq 11 (.conv .u64 (.t 10)),oq 2 (.mv (.t 11))]) .ret))
@[go_sem] def c69_9_wp:=wp_of c69_9.eq_1
def c69:AFn:=⟨12,[.t 2],c69_9⟩
theorem c69_ok:compF Tryz.prog Tryz.f69=some c69:=by kernel_rfl
theorem a69 {args:List AV} {σ:ASt} {R:AV->ASt->Prop} (hl:args.length<=12) (h:c69_9.wp Tryz.prog (RetQ [.t 2] R) (init args) σ):ACalls Tryz.prog 69 args σ R:=acalls_of Tryz.func69 c69_ok hl h
/-! 81: (tabular/deci.Dec).Fixed -/
def c81_24:ACode := .seq (.seq (.ops [ oq 41 (.mv (.t 6)),oq 42 (.bin .lss (.t 41) (.v (.int .i64 0)))]) (.cond (.t 42) (.ops [ oq 43 (.mv (.t 9)),oq 44 (.bin .add (.v (.str [45])) (.t 43)),oq 9 (.mv (.t 44))]) .skip)) (.seq (.ops [ oq 45 (.mv (.t 9)),oq 4 (.mv (.t 45)),oq 5 (.mv (.v (.bool true)))]) .ret)
def c81_31:ACode := .seq (.ops [ oq 4 (.mv (.v (.str []))),oq 5 (.mv (.v (.bool false)))]) (.seq (.seq (.ops [ oq 10 (.mv (.t 1)),oq 11 (.bin .lss (.t 10) (.v (.int .i64 0))),oq 12 (.mv (.t 11)),⟨some 13,some (12,false),.q (.mv (.t 1)),[]⟩,⟨some 14,some (12,false),.q (.bin .gtr (.t 13) (.v (.int .i64 4))),[]⟩,oq 15 (.pick (.t 12) (.v (.bool true)) (.t 14))]) (.cond (.t 15) (.seq (.ops [ oq 4 (.mv (.v (.str []))),oq 5 (.mv (.v (.bool false)))]) .ret) .skip)) (.seq (.ops [ oq 17 (.mv (.t 0)),oq 18 (.mv (.t 1)),oe 19 (.call 110 [(.t 17),(.t 18)]),oq 16 (.mv (.t 19)),oq 20 (.ext 0 (.t 16)),oq 21 (.ext 1 (.t 16)),oq 6 (.mv (.t 20)),oq 7 (.mv (.t 21))]) (.seq (.seq (.ops [ oq 22 (.mv (.t 7)),oq 23 (.un .not (.t 22))]) (.cond (.t 23) (.seq (.ops [ oq 4 (.mv (.v (.str []))),oq 5 (.mv (.v (.bool false)))]) .ret) .skip)) (.seq (.ops [ oq 24 (.mv (.t 6)),oe 25 (.call 103 [(.t 24)]),oq 8 (.mv (.t 25))]) (.seq (.ops [ oq 26 (.mv (.t 8)),oq 27 (.bin .quo (.t 26) (.v (.int .u64 10000))),oe 28 (.call 104 [(.t 27),(.v (.int .i64 10))]),oq 9 (.mv (.t 28))]) (.seq (.seq (.ops [ oq 29 (.mv (.t 1)),oq 30 (.bin .gtr (.t 29) (.v (.int .i64 0)))]) (.cond (.t 30) (.ops [ oq 31 (.mv (.t 9)),oq 32 (.mv (.t 8)),oq 33 (.bin .rem (.t 32) (.v (.int .u64 10000))),oq 34 (.bin .add (.v (.int .u64 10000)) (.t 33)),oe 35 (.call 104 [(.t 34),(.v (.int .i64 10))]),oq 36 (.mv (.t 1)),oq 37 (.bin .add (.v (.int .i64 1)) (.t 36)),oq 38 (.sls (true,0) (.t 35) (.v (.int .i64 1)) (.t 37)),oq 39 (.bin .add (.v (.str [46])) (.t 38)),oq 40 (.bin .add (.t 31) (.t 39)),oq 9 (.mv (.t 40))]) .skip)) c81_24))))))
@[go_sem] def c81_24_wp:=wp_of c81_24.eq_1
@[go_sem] def c81_31_wp:=wp_of c81_31.eq_1
def c81:AFn:=⟨46,[.t 4,.t 5],c81_31⟩
theorem c81_ok:compF Tryz.prog Tryz.f81=some c81:=by kernel_rfl
theorem a81 {args:List AV} {σ:ASt} {R:AV->ASt->Prop} (hl:args.length<=46) (h:c81_31.wp Tryz.prog (RetQ [.t 4,.t 5] R) (init args) σ):ACalls Tryz.prog 81 args σ R:=acalls_of Tryz.func81 c81_ok hl h
/-! 87: tabular/deci.Int -/
def c87_12:ACode := .seq (.ops [ oq 2 (.mv (.v (.int .i64 0))),oq 3 (.mv (.v (.bool false)))]) (.seq (.ops [ oq 7 (.mv (.t 0)),oq 8 (.conv .u64 (.t 7)),oq 4 (.mv (.t 8))]) (.seq (.seq (.ops [ oq 9 (.mv (.t 0)),oq 10 (.bin .lss (.t 9) (.v (.int .i64 0)))]) (.cond (.t 10) (.ops [ oq 11 (.mv (.t 4)),oq 12 (.un .neg (.t 11)),oq 4 (.mv (.t 12))]) .skip)) (.seq (.ops [ oq 14 (.mv (.t 4)),oe 15 (.call 116 [(.t 14),(.v (.int .u64 10000))]),oq 13 (.mv (.t 15)),oq 16 (.ext 0 (.t 13)),oq 17 (.ext 1 (.t 13)),oq 5 (.mv (.t 16)),oq 6 (.mv (.t 17))]) (.seq (.ops [ oq 18 (.mv (.t 0)),oq 19 (.bin .lss (.t 18) (.v (.int .i64 0))),oq 20 (.mv (.t 5)),oq 21 (.mv (.t 6)),oe 22 (.call 108 [(.t 19),(.t 20),(.t 21)]),oq 23 (.ext 0 (.t 22)),oq 24 (.ext 1 (.t 22)),oq 2 (.mv (.t 23)),oq 3 (.mv (.t 24))]) .ret))))
@[go_sem] def c87_12_wp:=wp_of c87_12.eq_1
def c87:AFn:=⟨25,[.t 2,.t 3],c87_12⟩
theorem c87_ok:compF Tryz.prog Tryz.f87=some c87:=by kernel_rfl
theorem a87 {args:List AV} {σ:ASt} {R:AV->ASt->Prop} (hl:args.length<=25) (h:c87_12.wp Tryz.prog (RetQ [.t 2,.t 3] R) (init args) σ):ACalls Tryz.prog 87 args σ R:=acalls_of Tryz.func87 c87_ok hl h
/-! 98: tabular/tabularref01.Value -/
def c98_16:ACode := .seq (.seq (.ops [ oq 8 (.mv (.t 7)),oq 9 (.mv (.t 1)),oq 10 (.lenS (.t 9)),oq 11 (.bin .lss (.t 8) (.t 10))]) (.cond (.t 11) .skip (.exit 0))) (.seq (.block 1 (.seq (.seq (.ops [ oq 14 (.mv (.t 6)),oq 15 (.bin .gtr (.t 14) (.v (.int .u64 99999999999999999)))]) (.cond (.t 15) (.seq (.ops [ oq 4 (.mv (.v (.int .i64 0))),oq 5 (.mv (.v (.bool false)))]) .ret) .skip)) (.ops [ oq 16 (.mv (.t 6)),oq 17 (.bin .mul (.v (.int .u64 10)) (.t 16)),oq 18 (.mv (.t 1)),oq 19 (.mv (.t 7)),oq 20 (.idx (.t 18) (.t 19)),oq 21 (.conv .u64 (.t 20)),oq 22 (.bin .add (.t 17) (.t 21)),oq 23 (.bin .sub (.t 22) (.v (.int .u64 48))),oq 6 (.mv (.t 23))]))) (.ops [ oq 12 (.mv (.t 7)),oq 13 (.bin .add (.t 12) (.v (.int .i64 1))),oq 7 (.mv (.t 13))]))
def c98_36:ACode := .seq (.ops [ oq 4 (.mv (.v (.int .i64 0))),oq 5 (.mv (.v (.bool false)))]) (.seq (.ops [ oq 6 (.mv (.v (.int .u64 0)))]) (.seq (.seq (.ops [ oq 7 (.mv (.v (.int .i64 0)))]) (.block 0 (.loop c98_16))) (.seq (.seq (.ops [ oq 24 (.mv (.t 6)),oq 25 (.bin .gtr (.t 24) (.v (.int .u64 999999999999999999)))]) (.cond (.t 25) (.seq (.ops [ oq 4 (.mv (.v (.int .i64 0))),oq 5 (.mv (.v (.bool false)))]) .ret) .skip)) (.seq (.seq (.ops [ oq 26 (.mv (.t 0))]) (.cond (.t 26) (.seq (.ops [ oq 27 (.mv (.t 6)),oq 28 (.conv .i64 (.t 27)),oq 29 (.un .neg (.t 28)),oq 4 (.mv (.t 29)),oq 5 (.mv (.v (.bool true)))]) .ret) .skip)) (.seq (.ops [ oq 30 (.mv (.t 6)),oq 31 (.conv .i64 (.t 30)),oq 4 (.mv (.t 31)),oq 5 (.mv (.v (.bool true)))]) .ret)))))
@[go_sem] def c98_16_wp:=wp_of c98_16.eq_1
@[go_sem] def c98_36_wp:=wp_of c98_36.eq_1
def c98:AFn:=⟨32,[.t 4,.t 5],c98_36⟩
theorem c98_ok:compF Tryz.prog Tryz.f98=some c98:=by kernel_rfl
theorem a98 {args:List AV} {σ:ASt} {R:AV->ASt->Prop} (hl:args.length<=32) (h:c98_36.wp Tryz.prog (RetQ [.t 4,.t 5] R) (init args) σ):ACalls Tryz.prog 98 args σ R:=acalls_of Tryz.func98 c98_ok hl h
/-! 99: tabular/tabularref01.Strip -/
def c99_6:ACode := .seq (.seq (.ops [ oq 3 (.mv (.t 0)),oq 4 (.lenS (.t 3)),oq 5 (.bin .gtr (.t 4) (.v (.int .i64 0))),oq 6 (.mv (.t 5)),⟨some 7,some (6,true),.q (.mv (.t 0)),[]⟩,⟨some 8,some (6,true),.q (.idx (.t 7) (.v (.int .i64 0))),[]⟩,⟨some 9,some (6,true),.q (.bin .eql (.t 8) (.v (.int .u8 48))),[]⟩,oq 10 (.pick (.t 6) (.t 9) (.v (.bool false)))]) (.cond (.t 10) .skip (.exit 0))) (.block 1 (.ops [ oq 11 (.mv (.t 0)),oq 12 (.slfrom (true,0) (.t 11) (.v (.int .i64 1))),oq 0 (.mv (.t 12))]))
def c99_12:ACode := .seq (.ops [ oq 2 (.mv (.v (.str [])))]) (.seq (.block 0 (.loop c99_6)) (.seq (.ops [ oq 13 (.mv (.t 0)),oq 2 (.mv (.t 13))]) .ret))
@[go_sem] def c99_6_wp:=wp_of c99_6.eq_1
@[go_sem] def c99_12_wp:=wp_of c99_12.eq_1
def c99:AFn:=⟨14,[.t 2],c99_12⟩
theorem c99_ok:compF Tryz.prog Tryz.f99=some c99:=by kernel_rfl
theorem a99 {args:List AV} {σ:ASt} {R:AV->ASt->Prop} (hl:args.length<=14) (h:c99_12.wp Tryz.prog (RetQ [.t 2] R) (init args) σ):ACalls Tryz.prog 99 args σ R:=acalls_of Tryz.func99 c99_ok hl h
/-! 100: tabular/tabularref01.Cut -/
def c100_6:ACode := .seq (.seq (.ops [ oq 5 (.mv (.t 0)),oq 6 (.lenS (.t 5)),oq 7 (.mv (.t 1)),oq 8 (.bin .leq (.t 6) (.t 7))]) (.cond (.t 8) .skip (.exit 0))) (.block 1 (.ops [ oq 9 (.mv (.t 0)),oq 10 (.bin .add (.v (.str [48])) (.t 9)),oq 0 (.mv (.t 10))]))
def c100_24:ACode := .seq (.ops [ oq 4 (.mv (.v (.str [])))]) (.seq (.block 0 (.loop c100_6)) (.seq (.seq (.ops [ oq 11 (.mv (.t 1)),oq 12 (.bin .eql (.t 11) (.v (.int .i64 0)))]) (.cond (.t 12) (.seq (.ops [ oq 13 (.mv (.t 0)),oq 4 (.mv (.t 13))]) .ret) .skip)) (.seq (.seq (.ops [ oq 14 (.mv (.t 0)),oq 15 (.mv (.t 0)),oq 16 (.lenS (.t 15)),oq 17 (.mv (.t 1)),oq 18 (.bin .sub (.t 16) (.t 17)),oq 19 (.idx (.t 14) (.t 18)),oq 20 (.bin .geq (.t 19) (.v (.int .u8 53)))]) (.cond (.t 20) (.seq (.ops [ oq 21 (.mv (.t 0)),oq 22 (.mv (.t 0)),oq 23 (.lenS (.t 22)),oq 24 (.mv (.t 1)),oq 25 (.bin .sub (.t 23) (.t 24)),oq 26 (.slto (true,0) (.t 21) (.t 25)),oe 27 (.call 123 [(.t 26)]),oq 4 (.mv (.t 27))]) .ret) .skip)) (.seq (.ops [ oq 28 (.mv (.t 0)),oq 29 (.mv (.t 0)),oq 30 (.lenS (.t 29)),oq 31 (.mv (.t 1)),oq 32 (.bin .sub (.t 30) (.t 31)),oq 33 (.slto (true,0) (.t 28) (.t 32)),oq 4 (.mv (.t 33))]) .ret))))
@[go_sem] def c100_6_wp:=wp_of c100_6.eq_1
@[go_sem] def c100_24_wp:=wp_of c100_24.eq_1
def c100:AFn:=⟨34,[.t 4],c100_24⟩
theorem c100_ok:compF Tryz.prog Tryz.f100=some c100:=by kernel_rfl
theorem a100 {args:List AV} {σ:ASt} {R:AV->ASt->Prop} (hl:args.length<=34) (h:c100_24.wp Tryz.prog (RetQ [.t 4] R) (init args) σ):ACalls Tryz.prog 100 args σ R:=acalls_of Tryz.func100 c100_ok hl h
/-! 101: tabular/tabularref01.Text -/
def c101_7:ACode := .seq (.seq (.ops [ oq 9 (.mv (.t 3)),oq 10 (.lenS (.t 9)),oq 11 (.bin .lss (.t 10) (.v (.int .i64 5)))]) (.cond (.t 11) .skip (.exit 0))) (.block 1 (.ops [ oq 12 (.mv (.t 3)),oq 13 (.bin .add (.v (.str [48])) (.t 12)),oq 3 (.mv (.t 13))]))
def c101_16:ACode := .seq (.seq (.ops [ oq 24 (.mv (.t 5)),oq 25 (.lenS (.t 24)),oq 26 (.bin .gtr (.t 25) (.v (.int .i64 0))),oq 27 (.mv (.t 26)),⟨some 28,some (27,true),.q (.mv (.t 5)),[]⟩,⟨some 29,some (27,true),.q (.mv (.t 5)),[]⟩,⟨some 30,some (27,true),.q (.lenS (.t 29)),[]⟩,⟨some 31,some (27,true),.q (.bin .sub (.t 30) (.v (.int .i64 1))),[]⟩,⟨some 32,some (27,true),.q (.idx (.t 28) (.t 31)),[]⟩,⟨some 33,some (27,true),.q (.bin .eql (.t 32) (.v (.int .u8 48))),[]⟩,oq 34 (.pick (.t 27) (.t 33) (.v (.bool false)))]) (.cond (.t 34) .skip (.exit 2))) (.block 3 (.ops [ oq 35 (.mv (.t 5)),oq 36 (.mv (.t 5)),oq 37 (.lenS (.t 36)),oq 38 (.bin .sub (.t 37) (.v (.int .i64 1))),oq 39 (.slto (true,0) (.t 35) (.t 38)),oq 5 (.mv (.t 39))]))
def c101_31:ACode := .seq (.seq (.ops [ oq 40 (.mv (.t 5)),oq 41 (.lenS (.t 40)),oq 42 (.bin .gtr (.t 41) (.v (.int .i64 0)))]) (.cond (.t 42) (.ops [ oq 43 (.mv (.t 4)),oq 44 (.mv (.t 5)),oq 45 (.bin .add (.v (.str [46])) (.t 44)),oq 46 (.bin .add (.t 43) (.t 45)),oq 4 (.mv (.t 46))]) .skip)) (.seq (.seq (.ops [ oq 47 (.mv (.t 0)),oq 48 (.bin .lss (.t 47) (.v (.int .i64 0)))]) (.cond (.t 48) (.seq (.ops [ oq 49 (.mv (.t 4)),oq 50 (.bin .add (.v (.str [45])) (.t 49)),oq 2 (.mv (.t 50))]) .ret) .skip)) (.seq (.ops [ oq 51 (.mv (.t 4)),oq 2 (.mv (.t 51))]) .ret))
def c101_36:ACode := .seq (.ops [ oq 2 (.mv (.v (.str [])))]) (.seq (.ops [ oq 6 (.mv (.t 0)),oe 7 (.call 69 [(.t 6)]),oe 8 (.call 68 [(.t 7)]),oq 3 (.mv (.t 8))]) (.seq (.block 0 (.loop c101_7)) (.seq (.ops [ oq 14 (.mv (.t 3)),oq 15 (.mv (.t 3)),oq 16 (.lenS (.t 15)),oq 17 (.bin .sub (.t 16) (.v (.int .i64 4))),oq 18 (.slto (true,0) (.t 14) (.t 17)),oq 19 (.mv (.t 3)),oq 20 (.mv (.t 3)),oq 21 (.lenS (.t 20)),oq 22 (.bin .sub (.t 21) (.v (.int .i64 4))),oq 23 (.slfrom (true,0) (.t 19) (.t 22)),oq 4 (.mv (.t 18)),oq 5 (.mv (.t 23))]) (.seq (.block 2 (.loop c101_16)) c101_31))))
@[go_sem] def c101_7_wp:=wp_of c101_7.eq_1
@[go_sem] def c101_16_wp:=wp_of c101_16.eq_1
@[go_sem] def c101_31_wp:=wp_of c101_31.eq_1
@[go_sem] def c101_36_wp:=wp_of c101_36.eq_1
def c101:AFn:=⟨52,[.t 2],c101_36⟩
theorem c101_ok:compF Tryz.prog Tryz.f101=some c101:=by kernel_rfl
theorem a101 {args:List AV} {σ:ASt} {R:AV->ASt->Prop} (hl:args.length<=52) (h:c101_36.wp Tryz.prog (RetQ [.t 2] R) (init args) σ):ACalls Tryz.prog 101 args σ R:=acalls_of Tryz.func101 c101_ok hl h
/-! 123: tabular/tabularref01.Inc -/
def c123_18:ACode := .seq (.seq (.ops [ oq 10 (.mv (.t 4)),oq 11 (.bin .geq (.t 10) (.v (.int .i64 0)))]) (.cond (.t 11) .skip (.exit 0))) (.seq (.block 1 (.seq (.seq (.ops [ oq 14 (.mv (.t 3)),oq 15 (.mv (.t 4)),oq 16 (.ia 1 (.t 14) (.t 15)),oq 17 (.ld none (.t 16)),oq 18 (.bin .lss (.t 17) (.v (.int .u8 57)))]) (.cond (.t 18) (.seq (.ops [ oq 19 (.mv (.t 3)),oq 20 (.mv (.t 4)),oq 21 (.ia 1 (.t 19) (.t 20)),oq 22 (.ld none (.t 21)),oq 23 (.bin .add (.t 22) (.v (.int .u8 1))),oq 24 (.ia 1 (.t 19) (.t 20)),oz (.store 1 (.t 24) (.t 23))]) (.seq (.ops [ oq 25 (.mv (.t 3)),oq 26 (.b2s (.t 25)),oq 2 (.mv (.t 26))]) .ret)) .skip)) (.ops [ oq 27 (.mv (.t 3)),oq 28 (.mv (.t 4)),oq 29 (.ia 1 (.t 27) (.t 28)),oz (.store 1 (.t 29) (.v (.int .u8 48)))]))) (.ops [ oq 12 (.mv (.t 4)),oq 13 (.bin .sub (.t 12) (.v (.int .i64 1))),oq 4 (.mv (.t 13))]))
def c123_26:ACode := .seq (.ops [ oq 2 (.mv (.v (.str [])))]) (.seq (.ops [ oq 5 (.mv (.t 0)),oe 6 (.s2b (.t 5)),oq 3 (.mv (.t 6))]) (.seq (.seq (.ops [ oq 7 (.mv (.t 3)),oq 8 (.len (.t 7)),oq 9 (.bin .sub (.t 8) (.v (.int .i64 1))),oq 4 (.mv (.t 9))]) (.block 0 (.loop c123_18))) (.seq (.ops [ oq 30 (.mv (.t 3)),oq 31 (.b2s (.t 30)),oq 32 (.bin .add (.v (.str [49])) (.t 31)),oq 2 (.mv (.t 32))]) .ret)))
@[go_sem] def c123_18_wp:=wp_of c123_18.eq_1
@[go_sem] def c123_26_wp:=wp_of c123_26.eq_1
def c123:AFn:=⟨33,[.t 2],c123_26⟩
theorem c123_ok:compF Tryz.prog Tryz.f123=some c123:=by kernel_rfl
theorem a123 {args:List AV} {σ:ASt} {R:AV->ASt->Prop} (hl:args.length<=33) (h:c123_26.wp Tryz.prog (RetQ [.t 2] R) (init args) σ):ACalls Tryz.prog 123 args σ R:=acalls_of Tryz.func123 c123_ok hl h
end Go.A
namespace Go.A
open Go.Proofs
theorem dec_step (n:Nat):Lib.decDigits n=if n<10 then [UInt8.ofNat (48+n)] else Lib.decDigits (n / 10) ++ [UInt8.ofNat (48+n % 10)]:=by
 rw [Lib.decDigits]
 by_cases h1:n<10
 ·rw [dif_pos h1,if_pos h1]
 ·rw [dif_neg h1,if_neg h1]
theorem rdigits_ok (n:Nat) (hn:n<18446744073709551616):Pure Tryz.prog 68 [.int .u64 n] (.str (Lib.decDigits n)):=by
 intro σ
 refine a68 (by simp) ?_
 obtain ⟨D,hD⟩:∃ D,Lib.decDigits n=D:=⟨_,rfl⟩
 rw [hD]
 simp (disch:=first|assumption|omega|(simp only [List.length_append,List.length_cons,List.length_nil];omega)) only [go_sem]
 refine wp_loop_on (fun (i:Nat×Nat×List UInt8) a σ'=>i.1<=20/\i.2.1<=n/\i.2.1<10 ^ (20-i.1)/\i.2.2.length=i.1/\((i.1=0/\Lib.decDigits i.2.1=D)\/(0<i.1/\(if i.2.1=0 then [] else Lib.decDigits i.2.1)++i.2.2=D))/\(a 0 = .int .u64 i.2.1/\a 3 = .str i.2.2/\a 4 = .int .i64 i.1)/\σ'=σ)
  (fun i=>20-i.1) (0,n,[]) ⟨by simp,Nat.le_refl _,by simp;omega,rfl,.inl ⟨rfl,hD⟩,?_,rfl⟩ ?_
 ·simp (disch:=first|assumption|omega|(simp only [List.length_append,List.length_cons,List.length_nil];omega)) only [go_sem]
 rintro ⟨i,m,s⟩ a σ1 ⟨hi,hmn,hm,hs,hx,⟨f0,f3,f4⟩,rfl⟩
 dsimp only at hi hmn hm hs hx f0 f3 f4
 by_cases hend:i=20\/(0<i/\m=0)
 ·have hsD:s=D:=by
   rcases hx with ⟨h1,h2⟩|⟨h1,h2⟩
   ·omega
   ·have:m=0:=by
     rcases hend with rfl|h
     ·simpa using hm
     ·exact h.2
    rw [if_pos this] at h2
    exact h2
  by_cases h20:i=20
  ·have e1:¬ (i:Int)<20:=by omega
   simp (disch:=first|assumption|omega|(simp only [List.length_append,List.length_cons,List.length_nil];omega)) only [go_sem,f0,f3,f4,e1]
   exact retC_by (Drop.refl _) (.refl _) ⟨by rw [<-hsD];rfl,rfl⟩
  ·have e1:(i:Int)<20:=by omega
   have e2:¬ (i:Int)=0:=by omega
   have e3:¬ (0:Int)<m:=by omega
   simp (disch:=first|assumption|omega|(simp only [List.length_append,List.length_cons,List.length_nil];omega)) only [go_sem,f0,f3,f4,e1,e2,e3]
   exact retC_by (Drop.refl _) (.refl _) ⟨by rw [<-hsD];rfl,rfl⟩
 ·have e1:(i:Int)<20:=by omega
  have t1:(m:Int).tmod 10=((m % 10:Nat):Int):=rfl
  have t2:(m:Int).tdiv 10=((m / 10:Nat):Int):=rfl
  have e4:(48+((m % 10:Nat):Int)).toNat=48+m % 10:=by omega
  have hs1:1+s.length<=9223372036854775807:=by omega
  have hstep:(0<i->m≠0)->(if m / 10=0 then [] else Lib.decDigits (m / 10))++(UInt8.ofNat (48+m % 10)::s)=Lib.decDigits m++s:=by
   intro _
   rw [dec_step m]
   by_cases h10:m<10
   ·rw [if_pos h10,if_pos (by omega),show m % 10=m by omega];rfl
   ·rw [if_neg h10,if_neg (by omega)];simp
  have g2:m / 10<10 ^ (20-(i+1)):=by
   rw [show 20-i=(20-(i+1))+1 by omega,Nat.pow_succ] at hm
   omega
  have g4:(if m / 10=0 then [] else Lib.decDigits (m / 10))++(UInt8.ofNat (48+m % 10)::s)=D:=by
   rw [hstep (by omega)]
   rcases hx with ⟨h1,h2⟩|⟨h1,h2⟩
   ·subst h1
    rw [List.eq_nil_of_length_eq_zero hs,List.append_nil]
    exact h2
   ·rw [if_neg (by omega)] at h2
    exact h2
  by_cases h0:i=0
  ·subst h0
   simp (disch:=first|assumption|omega|(simp only [List.length_append,List.length_cons,List.length_nil];omega)) only [go_sem,f0,f3,f4,e1,t1,t2,e4,hs1]
   exact ⟨(0+1,m / 10,UInt8.ofNat (48+m % 10)::s),by dsimp only;omega,by dsimp only;omega,by dsimp only;omega,g2,by simp [hs],.inr ⟨by dsimp only;omega,g4⟩,rfl,rfl,rfl⟩
  ·have e2:¬ (i:Int)=0:=by omega
   have e3:(0:Int)<m:=by omega
   simp (disch:=first|assumption|omega|(simp only [List.length_append,List.length_cons,List.length_nil];omega)) only [go_sem,f0,f3,f4,e1,e2,e3,t1,t2,e4,hs1]
   exact ⟨(i+1,m / 10,UInt8.ofNat (48+m % 10)::s),by dsimp only;omega,by dsimp only;omega,by dsimp only;omega,g2,by simp [hs],.inr ⟨by dsimp only;omega,g4⟩,rfl,rfl,rfl⟩
def AllD (l:List UInt8):Prop:=∀ c∈l,48<=c.toNat/\c.toNat<=57
def nv:List UInt8->Nat
 | []=>0
 | c::l=>(c.toNat-48)*10 ^ l.length+nv l
theorem nv_lt:∀ {l:List UInt8},AllD l->nv l<10 ^ l.length
 | [],_=>by simp [nv]
 | c::l,h=>by
   have h1:=nv_lt fun d hd=>h d (List.mem_cons_of_mem _ hd)
   have h2:=h c (List.mem_cons_self)
   have h3:(c.toNat-48)*10 ^ l.length<=9*10 ^ l.length:=Nat.mul_le_mul_right _ (by omega)
   simp only [nv,List.length_cons,Nat.pow_succ]
   omega
theorem nv_app:∀ (l m:List UInt8),nv (l++m)=nv l*10 ^ m.length+nv m
 | [],m=>by simp [nv]
 | c::l,m=>by
   rw [List.cons_append,nv,nv_app l m,nv,List.length_append,Nat.pow_add,Nat.add_mul,Nat.mul_assoc,Nat.add_assoc]
theorem nv_zeros (k:Nat):nv (List.replicate k 48)=0:=by
 induction k with
 | zero=>rfl
 | succ k ih=>rw [List.replicate_succ,nv,ih];simp
theorem nv_dd:∀ (n:Nat),nv (Lib.decDigits n)=n:=by
 intro n
 induction n using Nat.strongRecOn with
 | _ n ih=>
   by_cases h:n<10
   ·rw [dd_small h]
    simp only [nv,dig_nat h,List.length_nil]
    omega
   ·rw [dd_big h,nv_app,ih (n / 10) (by omega)]
    simp only [nv,dig_nat (show n % 10<10 by omega),List.length_cons,List.length_nil]
    omega
theorem acc_total:∀ {l:List UInt8} {n:Nat},AllD l->n<=999999999999999999->accP n l=if n*10 ^ l.length+nv l<=999999999999999999 then some (n*10 ^ l.length+nv l) else none
 | [],n,_,hn=>by simp [accP,nv,hn]
 | c::l,n,h,hn=>by
   have h2:=h c (List.mem_cons_self)
   have hl:AllD l:=fun d hd=>h d (List.mem_cons_of_mem _ hd)
   have hp:0<10 ^ l.length:=Nat.pow_pos (by omega)
   have e:n*10 ^ (c::l).length+nv (c::l)=(10*n+(c.toNat-48))*10 ^ l.length+nv l:=by
    rw [nv,List.length_cons,Nat.pow_succ,Nat.add_mul,Nat.mul_comm 10 n,← Nat.mul_assoc,Nat.mul_right_comm n]
    omega
   rw [accP,e]
   by_cases hb:99999999999999999<n
   ·rw [if_pos (by omega),if_neg]
    have:=Nat.mul_le_mul (show 1000000000000000000<=10*n+(c.toNat-48) by omega) hp
    omega
   ·rw [if_neg (by omega),acc_total hl (by omega)]
def stripP (l:List UInt8):List UInt8:=l.dropWhile (· == 48)
theorem nv_strip:∀ (l:List UInt8),nv (stripP l)=nv l
 | []=>rfl
 | c::l=>by
   unfold stripP
   by_cases h:c=48
   ·subst h
    rw [List.dropWhile_cons,if_pos (by rfl)]
    have:=nv_strip l
    unfold stripP at this
    rw [this,nv]
    simp
   ·rw [List.dropWhile_cons,if_neg (by simpa using h)]
def valP (m:Bool) (l:List UInt8):Option Int:=madeP m (nv l)
theorem strip_ok (s:List UInt8) (hs:s.length<=1000000):Pure Tryz.prog 99 [.str s] (.str (stripP s)):=by
 intro σ
 refine a99 (by simp) ?_
 simp (disch:=first|assumption|omega|(simp only [List.length_append,List.length_cons,List.length_nil];omega)) only [go_sem]
 refine wp_loop_on (fun (l:List UInt8) a s2=>stripP l=stripP s/\l.length<=1000000/\(a 0 = .str l)/\s2=σ) (fun l=>l.length) s ⟨rfl,hs,?_,rfl⟩ ?_
 ·simp (disch:=first|assumption|omega|(simp only [List.length_append,List.length_cons,List.length_nil];omega)) only [go_sem]
 rintro l a s2 ⟨hl,hlen,hf,rfl⟩
 cases l with
 | nil=>
   simp (disch:=first|assumption|omega|(simp only [List.length_append,List.length_cons,List.length_nil];omega)) only [go_sem,hf]
   exact retC_by (by repeat' (first|exact Drop.refl _|with_reducible refine Drop.off ?_ (by assumption))) (.refl _) ⟨by rw [<-hl];rfl,rfl⟩
 | cons c l=>
   obtain ⟨m,hm⟩:∃ m,m=c::l:=⟨_,rfl⟩
   have hidx:m[0]? = some c:=by rw [hm];rfl
   have hd1:m.drop 1=l:=by rw [hm];rfl
   have hml:m.length=l.length+1:=by rw [hm];rfl
   rw [<-hm] at hl hlen hf
   rw [<-hm]
   have g0:(0:Int)<m.length:=by omega
   have g1:(1:Int)<=m.length:=by omega
   by_cases h48:c=48
   ·have h48':(c.toNat:Int)=48:=by rw [h48];rfl
    have hs2:stripP l=stripP s:=by rw [<-hl,hm,h48];rfl
    simp (disch:=first|assumption|omega|(simp only [List.length_append,List.length_cons,List.length_nil];omega)) only [go_sem,hf,hidx,g0,g1,h48',hd1,List.take_length]
    exact ⟨l,by omega,hs2,by omega,rfl⟩
   ·have h48':¬ (c.toNat:Int)=48:=by
     intro h
     exact h48 (UInt8.toNat_inj.1 (by have e:(48:UInt8).toNat=48:=rfl;omega))
    have hs2:m=stripP s:=by
     rw [<-hl,hm]
     unfold stripP
     rw [List.dropWhile_cons,if_neg (by simpa using h48)]
    simp (disch:=first|assumption|omega|(simp only [List.length_append,List.length_cons,List.length_nil];omega)) only [go_sem,hf,hidx,g0,h48']
    exact retC_by (by repeat' (first|exact Drop.refl _|with_reducible refine Drop.off ?_ (by assumption))) (.refl _) ⟨by rw [<-hs2];rfl,rfl⟩
theorem value_ok (m:Bool) (s:List UInt8) (hs:AllD s) (hl:s.length<=1000000):Pure Tryz.prog 98 [.bool m,.str s] (resAV (valP m s)):=by
 intro σ
 have htot:=acc_total hs (n:=0) (by omega)
 rw [Nat.zero_mul,Nat.zero_add] at htot
 refine a98 (by simp) ?_
 simp (disch:=first|assumption|omega|(simp only [List.length_append,List.length_cons,List.length_nil];omega)) only [go_sem]
 refine wp_loop_on (fun (i:Nat) a s2=>i<=s.length/\(∃ n:Nat,n<=999999999999999999/\accP 0 s=accP n (s.drop i)/\a 6 = .int .u64 n)/\(a 0 = .bool m/\a 1 = .str s/\a 7 = .int .i64 i)/\s2=σ) (fun i=>s.length-i) 0 ⟨Nat.zero_le _,⟨0,by omega,rfl,?_⟩,?_,rfl⟩ ?_
 ·simp (disch:=first|assumption|omega|(simp only [List.length_append,List.length_cons,List.length_nil];omega)) only [go_sem]
 ·simp (disch:=first|assumption|omega|(simp only [List.length_append,List.length_cons,List.length_nil];omega)) only [go_sem]
 rintro i a s2 ⟨hi,⟨n,hn,hac,h6⟩,hf,rfl⟩
 by_cases hlt:i<s.length
 ·have hidx : s[i]? = some (s[i]'hlt) := List.getElem?_eq_getElem hlt
  rw [List.drop_eq_getElem_cons hlt] at hac
  have hc:=hs _ (List.getElem_mem hlt)
  obtain ⟨c, hce⟩ : ∃ c, s[i]'hlt = c := ⟨_, rfl⟩
  rw [hce] at hidx hac hc
  have hlt':(i:Int)<s.length:=by omega
  rw [accP] at hac
  by_cases h3:99999999999999999<n
  ·have h3':(99999999999999999:Int)<n:=by omega
   rw [if_pos (by omega)] at hac
   have hno:valP m s=none:=by
    unfold valP madeP
    rw [if_neg]
    intro hle
    rw [if_pos hle] at htot
    rw [htot] at hac
    cases hac
   rw [hno]
   simp (disch:=first|assumption|omega|(simp only [List.length_append,List.length_cons,List.length_nil];omega)) only [go_sem,hf,h6,hlt',h3']
   exact retC_by (by repeat' (first|exact Drop.refl _|with_reducible refine Drop.off ?_ (by assumption))) (.refl _) ⟨rfl,rfl⟩
  ·have h3':¬ (99999999999999999:Int)<n:=by omega
   rw [if_neg (by omega)] at hac
   obtain ⟨n2,hn2⟩:∃ n2:Nat,10*n+(c.toNat-48)=n2:=⟨_,rfl⟩
   rw [hn2] at hac
   have e2:10*(n:Int)+(c.toNat:Int)-48=n2:=by omega
   have hcb:c.toNat<256:=c.toNat_lt
   simp (disch:=first|assumption|omega|(simp only [List.length_append,List.length_cons,List.length_nil];omega)) only [go_sem,hf,h6,hlt',h3',hidx,e2]
   exact ⟨i+1,by omega,by omega,⟨n2,by omega,hac,rfl⟩,rfl⟩
 ·have hlt':¬ (i:Int)<s.length:=by omega
  rw [List.drop_eq_nil_of_le (by omega),accP,htot] at hac
  have hnv:nv s=n:=by
   split at hac
   ·injection hac
   ·cases hac
  have hv:valP m s=some (if m=true then -(n:Int) else n):=by
   unfold valP madeP
   rw [hnv,if_pos hn]
  rw [hv]
  have g1:¬ (999999999999999999:Int)<n:=by omega
  have e1:IntKind.i64.wrap (n:Int)=n:=by rw [IntKind.wrap_i64];omega
  cases m
  ·simp (disch:=first|assumption|omega|(simp only [List.length_append,List.length_cons,List.length_nil];omega)) only [go_sem,hf,h6,hlt',g1,e1]
   exact retC_by (by repeat' (first|exact Drop.refl _|with_reducible refine Drop.off ?_ (by assumption))) (.refl _) ⟨rfl,rfl⟩
  ·simp (disch:=first|assumption|omega|(simp only [List.length_append,List.length_cons,List.length_nil];omega)) only [go_sem,hf,h6,hlt',g1,e1]
   refine retC_by (by repeat' (first|exact Drop.refl _|with_reducible refine Drop.off ?_ (by assumption))) (.refl _) ⟨?_,rfl⟩
   rw [show (0:Int)-n = -n by omega]
   rfl
end Go.A
namespace Go.A
open Go.Proofs
def incC:List UInt8->List UInt8×Bool
 | []=>([],true)
 | c::l=>if (incC l).2=true then (if c.toNat<57 then ((c+1)::(incC l).1,false) else (48::(incC l).1,true)) else (c::(incC l).1,false)
def incP (s:List UInt8):List UInt8:=if (incC s).2=true then 49::(incC s).1 else (incC s).1
theorem incC_len:∀ (l:List UInt8),(incC l).1.length=l.length
 | []=>rfl
 | c::l=>by
   rw [incC]
   have:=incC_len l
   split
   ·split<;>simp [this]
   ·simp [this]
theorem succ_nat {c:UInt8} (h:c.toNat<57):(c+1).toNat=c.toNat+1:=by
 rw [UInt8.toNat_add,UInt8.toNat_one]
 omega
theorem incC_law:∀ {l:List UInt8},AllD l->AllD (incC l).1/\nv (incC l).1+(if (incC l).2=true then 10 ^ l.length else 0)=nv l+1
 | [],_=>⟨by simp [incC,AllD],by simp [incC,nv]⟩
 | c::l,h=>by
   have hl:AllD l:=fun d hd=>h d (List.mem_cons_of_mem _ hd)
   have hc:=h c (List.mem_cons_self)
   obtain ⟨h1,h2⟩:=incC_law hl
   have hlen:=incC_len l
   rw [incC]
   by_cases hk:(incC l).2=true
   ·rw [if_pos hk] at h2 ⊢
    by_cases h57:c.toNat<57
    ·rw [if_pos h57]
     have hs:=succ_nat h57
     refine ⟨fun d hd=>?_,?_⟩
     ·rcases List.mem_cons.1 hd with rfl|hd
      ·omega
      ·exact h1 d hd
     ·simp only [nv,hs,hlen,Bool.false_eq_true,if_false]
      rw [show c.toNat+1-48=(c.toNat-48)+1 by omega,Nat.add_mul]
      omega
    ·rw [if_neg h57]
     refine ⟨fun d hd=>?_,?_⟩
     ·rcases List.mem_cons.1 hd with rfl|hd
      ·decide
      ·exact h1 d hd
     ·simp only [nv,hlen,if_true,List.length_cons,Nat.pow_succ]
      rw [show c.toNat-48=9 by omega]
      have e:(48:UInt8).toNat=48:=rfl
      rw [e]
      omega
   ·rw [if_neg hk] at h2 ⊢
    refine ⟨fun d hd=>?_,?_⟩
    ·rcases List.mem_cons.1 hd with rfl|hd
     ·exact hc
     ·exact h1 d hd
    ·simp only [nv,hlen,Bool.false_eq_true,if_false]
     omega
theorem incP_law {l:List UInt8} (h:AllD l):AllD (incP l)/\nv (incP l)=nv l+1:=by
 obtain ⟨h1,h2⟩:=incC_law h
 have hlen:=incC_len l
 unfold incP
 split
 ·rename_i hk
  rw [if_pos hk] at h2
  refine ⟨fun d hd=>?_,?_⟩
  ·rcases List.mem_cons.1 hd with rfl|hd
   ·decide
   ·exact h1 d hd
  ·have e:(49:UInt8).toNat=49:=rfl
   simp only [nv,hlen,e]
   omega
 ·rename_i hk
  rw [if_neg hk] at h2
  exact ⟨h1,by omega⟩
theorem incC_left:∀ {p q q':List UInt8},incC q=(q',false)->incC (p++q)=(p++q',false)
 | [],q,q',h=>h
 | c::p,q,q',h=>by
   rw [List.cons_append,incC,incC_left h]
   rfl
theorem inc_ok (s:List UInt8) (hs:s.length<=1000000):Pure Tryz.prog 123 [.str s] (.str (incP s)):=by
 intro σ
 refine a123 (by simp) ?_
 simp (disch:=first|assumption|omega|(simp only [List.length_append,List.length_cons,List.length_nil];omega)) only [go_sem]
 refine s2b_own fun b cp hb hcp=>?_
 simp (disch:=first|assumption|omega|(simp only [List.length_append,List.length_cons,List.length_nil];omega)) only [go_sem]
 refine wp_loop_on (fun (r:Nat) a σ'=>r<=s.length/\(incC (s.drop r)).2=true/\(a 3 = .msl b 0 s.length cp/\a 4 = .int .i64 ((r:Int)-1))/\σ'=σ.set b (some (.obj (bytesAV (s.take r++(incC (s.drop r)).1)))))
  (fun r=>r) s.length ⟨Nat.le_refl _,by rw [List.drop_eq_nil_of_le (Nat.le_refl _)];rfl,?_,by rw [List.drop_eq_nil_of_le (Nat.le_refl _),List.take_of_length_le (Nat.le_refl _)];simp [incC]⟩ ?_
 ·simp (disch:=first|assumption|omega|(simp only [List.length_append,List.length_cons,List.length_nil];omega)) only [go_sem]
 rintro r a σ1 ⟨hr,hk,hf,rfl⟩
 have hSl:=incC_len (s.drop r)
 obtain ⟨m,hm⟩:∃ m,s.take r++(incC (s.drop r)).1=m:=⟨_,rfl⟩
 have hml:m.length=s.length:=by rw [<-hm];simp [hSl];omega
 rw [hm]
 by_cases h0:r=0
 ·subst h0
  have g0:¬ (0:Int)<=((0:Nat):Int)-1:=by omega
  have hle2:s.length<=m.length:=by omega
  have htk:=bytes_all hml
  have hres:incP s=49::m:=by
   rw [List.drop_zero] at hk hm
   unfold incP
   rw [if_pos hk,← hm]
   rfl
  have e1:binS .add [49] m=some (.str (49::m)):=binS_add (by simp;omega)
  rw [hres]
  simp (disch:=first|assumption|omega|(simp only [List.length_append,List.length_cons,List.length_nil];omega)) only [go_sem,hf,g0,hle2,htk,e1]
  exact retC_by (by repeat' (first|exact Drop.refl _|with_reducible refine Drop.off ?_ (by assumption))) (.refl _) ⟨rfl,rfl⟩
 ·obtain ⟨k,rfl⟩:∃ k,r=k+1:=⟨r-1,by omega⟩
  have hlt:k<s.length:=by omega
  have e0:((k+1:Nat):Int)-1=k:=by omega
  rw [e0] at hf
  obtain ⟨c, hc⟩ : ∃ c, s[k]'hlt = c := ⟨_, rfl⟩
  have hdk:s.drop k=c::s.drop (k+1):=by rw [List.drop_eq_getElem_cons hlt,hc]
  have hS:∀ x:UInt8,m.set k x=s.take k++x::(incC (s.drop (k+1))).1:=by
   intro x
   rw [<-hm,List.take_succ_eq_append_getElem hlt,List.append_assoc,List.set_append_right _ _ (by simp;omega)]
   have e:k-(s.take k).length=0:=by simp;omega
   rw [e]
   rfl
  have hidx:m[k]? = some c:=by
   rw [<-hm,List.take_succ_eq_append_getElem hlt,hc,List.append_assoc,List.getElem?_append_right (by simp;omega)]
   have e:k-(s.take k).length=0:=by simp;omega
   rw [e]
   rfl
  have hcb:=u8_lt c
  have hle:k+1<=m.length:=by omega
  have g0:(0:Int)<=(k:Int):=by omega
  by_cases h57:c.toNat<57
  ·have h57':(c.toNat:Int)<57:=by omega
   have hw:=set_bytes (l:=m) (i:=k) (m:=(c.toNat:Int)+1) (by omega)
   have hw0:(c.toNat:Int)+1=((c+1).toNat:Int):=by rw [succ_nat h57];omega
   rw [hw0,bytes_set,hS] at hw
   obtain ⟨m2,hm2⟩:∃ m2,s.take k++(c+1)::(incC (s.drop (k+1))).1=m2:=⟨_,rfl⟩
   have hm2l:m2.length=s.length:=by rw [<-hm2];simp [hSl];omega
   have htk:=bytes_all hm2l
   have hle2:s.length<=m2.length:=by omega
   have hres:incP s=m2:=by
    have hq:incC (s.drop k)=((c+1)::(incC (s.drop (k+1))).1,false):=by rw [hdk,incC,if_pos hk,if_pos h57]
    have:=incC_left (p:=s.take k) hq
    rw [List.take_append_drop] at this
    unfold incP
    rw [this,hm2]
    rfl
   rw [hm2] at hw
   rw [hres]
   simp (disch:=first|assumption|omega|(simp only [List.length_append,List.length_cons,List.length_nil];omega)) only [go_sem,hf,g0,hidx,hle,h57',hw0,hw,hle2,htk]
   exact retC_by (by repeat' (first|exact Drop.refl _|with_reducible refine Drop.off ?_ (by assumption))) (.refl _) ⟨rfl,rfl⟩
  ·have h57':¬ (c.toNat:Int)<57:=by omega
   have hw:=set_bytes (l:=m) (i:=k) (m:=48) (by omega)
   have hw0:(48:Int)=((48:UInt8).toNat:Int):=rfl
   have hq:incC (s.drop k)=(48::(incC (s.drop (k+1))).1,true):=by rw [hdk,incC,if_pos hk,if_neg h57]
   have hw2:(bytesAV m).set k (.int .u8 48)=bytesAV (s.take k++(incC (s.drop k)).1):=by
    rw [hw0,bytes_set,hS,hq]
   rw [hw2] at hw
   simp (disch:=first|assumption|omega|(simp only [List.length_append,List.length_cons,List.length_nil];omega)) only [go_sem,hf,g0,hidx,hle,h57',hw]
   exact ⟨k,by omega,by omega,by rw [hq],rfl,rfl⟩
end Go.A
namespace Go.A
open Go.Proofs
def padP (s:List UInt8) (n:Nat):List UInt8:=List.replicate (n+1-s.length) 48++s
def cutD (s:List UInt8) (n:Nat):List UInt8:=
 if n=0 then padP s n else if 53<=(((padP s n)[(padP s n).length-n]?).getD 0).toNat then incP ((padP s n).take ((padP s n).length-n)) else (padP s n).take ((padP s n).length-n)
theorem padP_more {s:List UInt8} {n:Nat} (h:s.length<=n):padP (48::s) n=padP s n:=by
 unfold padP
 rw [List.length_cons,show n+1-s.length=(n+1-(s.length+1))+1 by omega,List.replicate_succ',List.append_assoc]
 rfl
theorem padP_done {s:List UInt8} {n:Nat} (h:n<s.length):padP s n=s:=by
 unfold padP
 rw [show n+1-s.length=0 by omega]
 rfl
theorem rcut_ok (s:List UInt8) (n:Nat) (hs:s.length<=1000) (hn:n<=1000):Pure Tryz.prog 100 [.str s,.int .i64 n] (.str (cutD s n)):=by
 intro σ
 refine a100 (by simp) ?_
 simp (disch:=first|assumption|omega|(simp only [List.length_append,List.length_cons,List.length_nil];omega)) only [go_sem]
 refine wp_loop_on (fun (l:List UInt8) a s2=>padP l n=padP s n/\l.length<=2000/\(a 0 = .str l/\a 1 = .int .i64 n)/\s2=σ) (fun l=>2000-l.length) s ⟨rfl,by omega,?_,rfl⟩ ?_
 ·simp (disch:=first|assumption|omega|(simp only [List.length_append,List.length_cons,List.length_nil];omega)) only [go_sem]
 rintro l a s2 ⟨hp,hl,hf,rfl⟩
 by_cases hle:l.length<=n
 ·have hle':(l.length:Int)<=n:=by omega
  have e1:binS .add [48] l=some (.str (48::l)):=binS_add (by simp;omega)
  simp (disch:=first|assumption|omega|(simp only [List.length_append,List.length_cons,List.length_nil];omega)) only [go_sem,hf,hle',e1]
  exact ⟨48::l,by simp;omega,by rw [padP_more hle,hp],by simp;omega,rfl⟩
 ·have hle':¬ (l.length:Int)<=n:=by omega
  rw [padP_done (by omega)] at hp
  have hres:cutD s n=if n=0 then l else if 53<=((l[l.length-n]?).getD 0).toNat then incP (l.take (l.length-n)) else l.take (l.length-n):=by
   unfold cutD
   rw [<-hp]
  rw [hres]
  by_cases h0:n=0
  ·subst h0
   rw [if_pos rfl]
   have h0':((0:Nat):Int)=0:=rfl
   simp (disch:=first|assumption|omega|(simp only [List.length_append,List.length_cons,List.length_nil];omega)) only [go_sem,hf,hle',h0']
   exact retC_by (by repeat' (first|exact Drop.refl _|with_reducible refine Drop.off ?_ (by assumption))) (.refl _) ⟨rfl,rfl⟩
  ·have h0':¬ (n:Int)=0:=by omega
   rw [if_neg h0]
   obtain ⟨k,hk⟩:∃ k,l.length-n=k:=⟨_,rfl⟩
   rw [hk]
   have hkl:k<l.length:=by omega
   have e2:(l.length:Int)-n=k:=by omega
   obtain ⟨c, hc⟩ : ∃ c, l[k]'hkl = c := ⟨_, rfl⟩
   have hidx:l[k]? = some c:=by rw [List.getElem?_eq_getElem hkl,hc]
   rw [hidx,Option.getD_some]
   have hkl':(k:Int)<l.length:=by omega
   have hkl2:(k:Int)<=l.length:=by omega
   by_cases h53:53<=c.toNat
   ·have h53':(53:Int)<=c.toNat:=by omega
    rw [if_pos h53]
    have hI:=inc_ok (l.take k) (by simp;omega)
    simp (disch:=first|assumption|omega|(simp only [List.length_append,List.length_cons,List.length_nil];omega)) only [go_sem,hf,hle',h0',e2,hidx,hkl',hkl2,h53']
    refine hI.use ?_
    simp (disch:=first|assumption|omega|(simp only [List.length_append,List.length_cons,List.length_nil];omega)) only [go_sem]
    exact retC_by (by repeat' (first|exact Drop.refl _|with_reducible refine Drop.off ?_ (by assumption))) (.refl _) ⟨rfl,rfl⟩
   ·have h53':¬ (53:Int)<=c.toNat:=by omega
    rw [if_neg h53]
    simp (disch:=first|assumption|omega|(simp only [List.length_append,List.length_cons,List.length_nil];omega)) only [go_sem,hf,hle',h0',e2,hidx,hkl',hkl2,h53']
    exact retC_by (by repeat' (first|exact Drop.refl _|with_reducible refine Drop.off ?_ (by assumption))) (.refl _) ⟨rfl,rfl⟩
end Go.A
namespace Go.A
open Go.Proofs
theorem nv_pad (s:List UInt8) (n:Nat):nv (padP s n)=nv s:=by
 unfold padP
 rw [nv_app,nv_zeros]
 omega
theorem allD_pad {s:List UInt8} (h:AllD s) (n:Nat):AllD (padP s n):=by
 intro c hc
 rcases List.mem_append.1 hc with hc|hc
 ·obtain ⟨_,rfl⟩:=List.mem_replicate.1 hc
  decide
 ·exact h c hc
theorem pad_len (s:List UInt8) (n:Nat):n<(padP s n).length:=by
 unfold padP
 simp
 omega
theorem cut_law {s:List UInt8} (h:AllD s) {n:Nat} (hn:0<n):AllD (cutD s n)/\nv (cutD s n)*10 ^ n=rndN (nv s) (10 ^ n):=by
 obtain ⟨t,ht⟩:∃ t,padP s n=t:=⟨_,rfl⟩
 have h1:nv t=nv s:=by rw [<-ht,nv_pad]
 have h2:AllD t:=ht▸allD_pad h n
 have h3:n<t.length:=ht▸pad_len s n
 unfold cutD
 rw [ht,if_neg (by omega)]
 have hk:t.length-n<t.length:=by omega
 have hA:AllD (t.take (t.length-n)):=fun c hc=>h2 c (List.mem_of_mem_take hc)
 obtain ⟨c, hc⟩ : ∃ c, t[t.length - n]'hk = c := ⟨_, rfl⟩
 have hdr:t.drop (t.length-n)=c::t.drop (t.length-n+1):=by rw [List.drop_eq_getElem_cons hk,hc]
 have hB:AllD (t.drop (t.length-n+1)):=fun d hd=>h2 d (List.mem_of_mem_drop hd)
 have hcd:=h2 c (hc▸List.getElem_mem hk)
 have hBl:(t.drop (t.length-n+1)).length=n-1:=by rw [List.length_drop];omega
 have hb:=nv_lt hB
 rw [hBl] at hb
 have hval:nv t=nv (t.take (t.length-n))*10 ^ n+((c.toNat-48)*10 ^ (n-1)+nv (t.drop (t.length-n+1))):=by
  have:=nv_app (t.take (t.length-n)) (t.drop (t.length-n))
  rw [List.take_append_drop,List.length_drop,hdr,nv,hBl,show t.length-(t.length-n)=n by omega] at this
  exact this
 have e10:10 ^ n=10*10 ^ (n-1):=by
  rw [<-Nat.pow_succ']
  congr 1
  omega
 rw [List.getElem?_eq_getElem hk,hc,Option.getD_some,← h1]
 obtain ⟨i1,i2⟩:=incP_law hA
 obtain ⟨A,hAe⟩:∃ A,nv (t.take (t.length-n))=A:=⟨_,rfl⟩
 rw [hAe] at hval i2
 generalize nv (t.drop (t.length-n+1))=b at *
 obtain ⟨d,hd⟩:∃ d,c.toNat-48=d:=⟨_,rfl⟩
 rw [hd] at hval
 generalize hw:10 ^ (n-1)=w at *
 have hr:nv t % 10 ^ n=d*w+b:=by
  rw [hval,e10,Nat.mul_add_mod_of_lt]
  have:d*w<=9*w:=Nat.mul_le_mul_right _ (by omega)
  omega
 unfold rndN
 rw [hr]
 have hu:nv t-(d*w+b)=A*10 ^ n:=by rw [hval];omega
 rw [hu,e10]
 by_cases h5:53<=c.toNat
 ·rw [if_pos h5,if_pos]
  ·exact ⟨i1,by rw [i2,Nat.add_mul];omega⟩
  ·have:5*w<=d*w:=Nat.mul_le_mul_right _ (by omega)
   omega
 ·rw [if_neg h5,if_neg]
  ·exact ⟨hA,by rw [hAe]⟩
  ·have:d*w<=4*w:=Nat.mul_le_mul_right _ (by omega)
   omega
end Go.A
namespace Go.A
open Go.Proofs
theorem rsize_ok (a:Int) (h:a.natAbs<=999999999999999999):Pure Tryz.prog 69 [.int .i64 a] (.int .u64 (a.natAbs:Nat)):=by
 intro σ
 refine a69 (by simp) ?_
 by_cases h0:a<0
 ·have e:IntKind.u64.wrap (0-(a+1))=0-(a+1):=by rw [IntKind.wrap_u64];omega
  have e2:0-(a+1)+1=((a.natAbs:Nat):Int):=by omega
  simp (disch:=first|assumption|omega|(simp only [List.length_append,List.length_cons,List.length_nil];omega)) only [go_sem,h0,e,e2]
  exact retC_by (by repeat' (first|exact Drop.refl _|with_reducible refine Drop.off ?_ (by assumption))) (.refl _) ⟨rfl,rfl⟩
 ·have e:IntKind.u64.wrap a=((a.natAbs:Nat):Int):=by rw [IntKind.wrap_u64];omega
  simp (disch:=first|assumption|omega|(simp only [List.length_append,List.length_cons,List.length_nil];omega)) only [go_sem,h0,e]
  exact retC_by (by repeat' (first|exact Drop.refl _|with_reducible refine Drop.off ?_ (by assumption))) (.refl _) ⟨rfl,rfl⟩
theorem allD_zeros (k:Nat):AllD (List.replicate k 48):=by
 intro c hc
 obtain ⟨_,rfl⟩:=List.mem_replicate.1 hc
 decide
theorem allD_app {l m:List UInt8} (h:AllD l) (k:AllD m):AllD (l++m):=fun c hc=>(List.mem_append.1 hc).elim (h c) (k c)
theorem allD_strip {l:List UInt8} (h:AllD l):AllD (stripP l):=fun c hc=>h c ((List.dropWhile_sublist _).subset hc)
theorem inc_len (s:List UInt8):(incP s).length<=s.length+1:=by
 unfold incP
 have:=incC_len s
 split<;>simp<;>omega
theorem cutD_len (s:List UInt8) (n:Nat):(cutD s n).length<=s.length+n+2:=by
 have hp:(padP s n).length<=s.length+n+1:=by unfold padP;simp;omega
 unfold cutD
 split
 ·omega
 ·split
  ·have:=inc_len ((padP s n).take ((padP s n).length-n))
   simp at this ⊢
   omega
  ·simp;omega
set_option maxHeartbeats 1000000 in
theorem rround_ok {a p:Int} (ha:a.natAbs<=999999999999999999) (h0 : -14<=p) (h1:p<4):Pure Tryz.prog 67 [.int .i64 a,.int .i64 p] (resAV (roundP a (10 ^ (4-p).toNat))):=by
 intro σ
 obtain ⟨k,hk⟩:∃ k:Nat,(4-p).toNat=k:=⟨_,rfl⟩
 have e4:(4:Int)-p=k:=by omega
 have hk0:0<k:=by omega
 have hk18:k<=18:=by omega
 rw [hk]
 have hdl:(Lib.decDigits a.natAbs).length<=18:=dd_len 17 _ (by omega)
 have hdD:AllD (Lib.decDigits a.natAbs):=(dd_all _).1
 obtain ⟨c1,c2⟩:=cut_law hdD hk0
 rw [nv_dd] at c2
 have hcl:=cutD_len (Lib.decDigits a.natAbs) k
 have hS:=rsize_ok a ha
 have hD:=rdigits_ok a.natAbs (by omega)
 have hC:=rcut_ok (Lib.decDigits a.natAbs) k (by omega) (by omega)
 generalize cutD (Lib.decDigits a.natAbs) k=X at *
 have hfin:roundP a (10 ^ k)=valP (decide (a<0)) (stripP (X++List.replicate k 48)):=by
  unfold valP roundP
  rw [nv_strip,nv_app,nv_zeros,List.length_replicate,Nat.add_zero,c2]
 have hV:=value_ok (decide (a<0)) (stripP (X++List.replicate k 48)) (allD_strip (allD_app c1 (allD_zeros k))) (by
  have:=(List.dropWhile_sublist (p:=(· == 48)) (l:=X++List.replicate k 48)).length_le
  unfold stripP
  simp at this ⊢
  omega)
 have hT:=strip_ok (X++List.replicate k 48) (by simp;omega)
 rw [hfin]
 generalize valP (decide (a<0)) (stripP (X++List.replicate k 48))=V at *
 have g1:¬ (4:Int)<=p:=by omega
 have g2:¬ p < -14:=by omega
 simp only [resAV] at hV ⊢
 refine a67 (by simp) ?_
 simp (disch:=first|assumption|omega|(simp only [List.length_append,List.length_cons,List.length_nil];omega)) only [go_sem,g1,g2]
 refine hS.use ?_
 simp (disch:=first|assumption|omega|(simp only [List.length_append,List.length_cons,List.length_nil];omega)) only [go_sem]
 refine hD.use ?_
 simp (disch:=first|assumption|omega|(simp only [List.length_append,List.length_cons,List.length_nil];omega)) only [go_sem,e4]
 refine hC.use ?_
 simp (disch:=first|assumption|omega|(simp only [List.length_append,List.length_cons,List.length_nil];omega)) only [go_sem]
 refine wp_loop_on (fun (j:Nat) a1 s2=>j<=k/\(a1 0 = .int .i64 a/\a1 6 = .str (X++List.replicate j 48)/\a1 7 = .int .i64 (p+j))/\s2=σ) (fun j=>k-j) 0 ⟨Nat.zero_le _,?_,rfl⟩ ?_
 ·simp (disch:=first|assumption|omega|(simp only [List.length_append,List.length_cons,List.length_nil];omega)) only [go_sem]
  simp
 rintro j a1 s2 ⟨hj,hf,rfl⟩
 by_cases hlt:j<k
 ·have g3:p+(j:Int)<4:=by omega
  have e1:binS .add (X++List.replicate j 48) [48]=some (.str (X++List.replicate (j+1) 48)):=by
   rw [binS_add (by simp;omega),List.replicate_succ',List.append_assoc]
  simp (disch:=first|assumption|omega|(simp only [List.length_append,List.length_cons,List.length_nil];omega)) only [go_sem,hf,g3,e1]
  exact ⟨j+1,by omega,by omega,by rw [Int.natCast_add,← Int.add_assoc];exact ⟨rfl,rfl⟩⟩
 ·have g3:¬ p+(j:Int)<4:=by omega
  obtain rfl:j=k:=by omega
  simp (disch:=first|assumption|omega|(simp only [List.length_append,List.length_cons,List.length_nil];omega)) only [go_sem,hf,g3]
  refine hT.use ?_
  simp (disch:=first|assumption|omega|(simp only [List.length_append,List.length_cons,List.length_nil];omega)) only [go_sem,hf]
  refine hV.use ?_
  simp (disch:=first|assumption|omega|(simp only [List.length_append,List.length_cons,List.length_nil];omega)) only [go_sem]
  exact retC_by (by repeat' (first|exact Drop.refl _|with_reducible refine Drop.off ?_ (by assumption))) (.refl _) ⟨rfl,rfl⟩
end Go.A
namespace Go.A
open Go.Proofs
theorem rround_hi {a p:Int} (h:4<=p):Pure Tryz.prog 67 [.int .i64 a,.int .i64 p] (resAV (some a)):=by
 intro σ
 refine a67 (by simp) ?_
 simp (disch:=first|assumption|omega|(simp only [List.length_append,List.length_cons,List.length_nil];omega)) only [go_sem,h]
 exact retC_by (by repeat' (first|exact Drop.refl _|with_reducible refine Drop.off ?_ (by assumption))) (.refl _) ⟨rfl,rfl⟩
end Go.A
namespace Go.A
open Go.Proofs
def rp:List UInt8->Nat->List UInt8->List UInt8->Option (List UInt8×List UInt8×Nat)
 | [],d,w,p=>some (w,p,d)
 | c::l,d,w,p=>if c=46 then rp l (d+1) w p else if c.toNat<48\/57<c.toNat then none else if d=0 then rp l d (w ++ [c]) p else rp l d w (p ++ [c])
theorem rp_bad:∀ (x:List UInt8) (d:Nat) (w p:List UInt8),rp x (d+2) w p=none\/∃ p' k,rp x (d+2) w p=some (w,p',k+2)
 | [],d,w,p => .inr ⟨p,d,rfl⟩
 | c::l,d,w,p=>by
   rw [rp]
   split
   ·exact rp_bad l (d+1) w p
   ·split
    ·exact .inl rfl
    ·rw [if_neg (by omega)]
     exact rp_bad l d w _
theorem not_dot {c:UInt8} (h:48<=c.toNat/\c.toNat<=57):c≠46:=ne_of_digit h.1 (by decide)
theorem rp_all1:∀ (x:List UInt8) (w p:List UInt8),AllD x->rp x 1 w p=some (w,p++x,1)
 | [],w,p,_=>by simp [rp]
 | c::l,w,p,h=>by
   have hc:=h c (List.mem_cons_self)
   rw [rp,if_neg (not_dot hc),if_neg (by omega),if_neg (by omega),rp_all1 l w _ (fun d hd=>h d (List.mem_cons_of_mem _ hd))]
   simp
theorem rp_bad1:∀ (x:List UInt8) (w p:List UInt8),¬ AllD x->rp x 1 w p=none\/∃ p' k,rp x 1 w p=some (w,p',k+2)
 | [],w,p,h=>absurd (fun _ hc=>by cases hc) h
 | c::l,w,p,h=>by
   rw [rp]
   split
   ·exact rp_bad l 0 w p
   ·split
    ·exact .inl rfl
    ·rw [if_neg (by omega)]
     refine rp_bad1 l w _ fun hl=>h fun d hd=>?_
     rcases List.mem_cons.1 hd with rfl|hd
     ·omega
     ·exact hl d hd
theorem rp_all0:∀ (x:List UInt8) (w:List UInt8),AllD x->rp x 0 w []=some (w++x,[],0)
 | [],w,_=>by simp [rp]
 | c::l,w,h=>by
   have hc:=h c (List.mem_cons_self)
   rw [rp,if_neg (not_dot hc),if_neg (by omega),if_pos rfl,rp_all0 l _ (fun d hd=>h d (List.mem_cons_of_mem _ hd))]
   simp
theorem rp_bad0:∀ (x:List UInt8) (w:List UInt8),(∀ b∈x,b≠46)->¬ AllD x->rp x 0 w []=none
 | [],w,_,h=>absurd (fun _ hc=>by cases hc) h
 | c::l,w,h6,h=>by
   rw [rp,if_neg (h6 c (List.mem_cons_self))]
   split
   ·rfl
   ·rw [if_pos rfl]
    refine rp_bad0 l _ (fun b hb=>h6 b (List.mem_cons_of_mem _ hb)) fun hl=>h fun d hd=>?_
    rcases List.mem_cons.1 hd with rfl|hd
    ·omega
    ·exact hl d hd
theorem rp_app0:∀ (a x:List UInt8) (w:List UInt8),AllD a->rp (a++46::x) 0 w []=rp x 1 (w++a) []
 | [],x,w,_=>by simp [rp]
 | c::l,x,w,h=>by
   have hc:=h c (List.mem_cons_self)
   rw [List.cons_append,rp,if_neg (not_dot hc),if_neg (by omega),if_pos rfl,rp_app0 l x _ (fun d hd=>h d (List.mem_cons_of_mem _ hd))]
   simp
theorem rp_appBad:∀ (a x:List UInt8) (w:List UInt8),(∀ b∈a,b≠46)->¬ AllD a->rp (a++x) 0 w []=none
 | [],x,w,_,h=>absurd (fun _ hc=>by cases hc) h
 | c::l,x,w,h6,h=>by
   rw [List.cons_append,rp,if_neg (h6 c (List.mem_cons_self))]
   split
   ·rfl
   ·rw [if_pos rfl]
    refine rp_appBad l x _ (fun b hb=>h6 b (List.mem_cons_of_mem _ hb)) fun hl=>h fun d hd=>?_
    rcases List.mem_cons.1 hd with rfl|hd
    ·omega
    ·exact hl d hd
theorem acc_bad:∀ (l:List UInt8) (n:Nat),¬ AllD l->accP n l=none
 | [],n,h=>absurd (fun _ hc=>by cases hc) h
 | c::l,n,h=>by
   rw [accP]
   split
   ·rfl
   ·refine acc_bad l _ fun hl=>h fun d hd=>?_
    rcases List.mem_cons.1 hd with rfl|hd
    ·omega
    ·exact hl d hd
def rpEnd (m:Bool):Option (List UInt8×List UInt8×Nat)->Option Int
 | none=>none
 | some (w,p,d)=>if 1<d\/w = []\/d=1/\p = []\/4<p.length then none else valP m (stripP (w++(p++List.replicate (4-p.length) 48)))
theorem first_dot (s:List UInt8):(∀ b∈s,b≠46)\/∃ a x,s=a++46::x/\∀ b∈a,b≠46:=by
 induction s with
 | nil=>exact .inl fun _ h=>by cases h
 | cons c l ih=>
   by_cases hc:c=46
   ·subst hc
    exact .inr ⟨[],l,rfl,fun _ h=>by cases h⟩
   ·rcases ih with h|⟨a,x,rfl,h⟩
    ·refine .inl fun b hb=>?_
     rcases List.mem_cons.1 hb with rfl|hb
     ·exact hc
     ·exact h b hb
    ·refine .inr ⟨c::a,x,rfl,fun b hb=>?_⟩
     rcases List.mem_cons.1 hb with rfl|hb
     ·exact hc
     ·exact h b hb
theorem acc_val {m:Bool} {l:List UInt8} (h:AllD l):(accP 0 l).bind (madeP m)=valP m (stripP l):=by
 have htot:=acc_total h (n:=0) (by omega)
 rw [Nat.zero_mul,Nat.zero_add] at htot
 rw [htot]
 unfold valP
 rw [nv_strip]
 by_cases hb:nv l<=999999999999999999
 ·rw [if_pos hb];rfl
 ·rw [if_neg hb]
  unfold madeP
  rw [if_neg hb];rfl
theorem rp_parse (m:Bool) (s:List UInt8):rpEnd m (rp s 0 [] [])=parseQ m (Lib.cut s [46]).1 (Lib.cut s [46]).2.1 (Lib.cut s [46]).2.2:=by
 rcases first_dot s with h|⟨a,x,rfl,h⟩
 ·rw [cut_none 46 s h]
  unfold parseQ
  by_cases hd:AllD s
  ·rw [rp_all0 s [] hd]
   simp only [rpEnd,List.nil_append]
   by_cases hs:s = []
   ·rw [if_pos (by simp [hs]),if_pos (by simp [hs])]
   ·rw [if_neg (by simp [hs]),if_neg (by simp [hs]),List.append_nil,acc_val (allD_app hd (allD_zeros _))]
  ·rw [rp_bad0 s [] h hd]
   have hne:s ≠ []:=fun e=>hd (e▸fun _ hc=>by cases hc)
   rw [if_neg (by simp [hne]),List.append_nil,acc_bad]
   ·rfl
   ·exact fun hl=>hd fun d hd=>hl d (List.mem_append_left _ hd)
 ·rw [cut_one 46 a x h]
  unfold parseQ
  by_cases hd:AllD a
  ·rw [rp_app0 a x [] hd,List.nil_append]
   by_cases hx:AllD x
   ·rw [rp_all1 x a [] hx]
    simp only [rpEnd,List.nil_append]
    by_cases hg:a = []\/x = []\/4<x.length
    ·rw [if_pos (by rcases hg with h|h|h<;>simp [h]),if_pos (by rcases hg with h|h|h<;>simp [h])]
    ·have g1:a ≠ []:=fun e=>hg (.inl e)
     have g2:x ≠ []:=fun e=>hg (.inr (.inl e))
     have g3:¬ 4<x.length:=fun e=>hg (.inr (.inr e))
     rw [if_neg (by rintro (h|h|⟨_,h⟩|h)<;>first|omega|contradiction),if_neg (by rintro (h|⟨_,h|h⟩)<;>contradiction),List.append_assoc,acc_val (allD_app hd (allD_app hx (allD_zeros _)))]
   ·have hnone:(accP 0 (a++x++List.replicate (4-x.length) 48)).bind (madeP m)=none:=by
     rw [acc_bad]
     ·rfl
     ·exact fun hl=>hx fun d hd=>hl d (List.mem_append_left _ (List.mem_append_right _ hd))
    rw [hnone]
    have hr:rpEnd m (rp x 1 a [])=none:=by
     rcases rp_bad1 x a [] hx with e|⟨p',k,e⟩<;>rw [e]
     ·rfl
     ·simp only [rpEnd]
      exact if_pos (Or.inl (by omega))
    rw [hr]
    split<;>rfl
  ·rw [rp_appBad a _ [] h hd]
   have hnone:(accP 0 (a++x++List.replicate (4-x.length) 48)).bind (madeP m)=none:=by
    rw [acc_bad]
    ·rfl
    ·exact fun hl=>hd fun d hd=>hl d (List.mem_append_left _ (List.mem_append_left _ hd))
   rw [hnone]
   split<;>rfl
theorem pad_dd (u:Nat):padP (Lib.decDigits u) 4=Lib.decDigits (u / 10000)++fourP (u % 10000):=by
 by_cases h:10000<=u
 ·have e:Lib.decDigits u=Lib.decDigits (u / 10000)++fourP (u % 10000):=by
   rw [dd_big (by omega),dd_big (by omega),dd_big (by omega),dd_big (by omega)]
   unfold fourP
   simp only [List.append_assoc,List.cons_append,List.nil_append]
   congr 1
   ·congr 1;omega
   ·congr 1
    ·congr 1;omega
    congr 1
    ·congr 1;omega
    congr 1
    ·congr 1;omega
    congr 1
    ·congr 1;omega
  have hl:4<(Lib.decDigits u).length:=by
   have:=List.length_pos_iff.2 (dd_len_pos (u / 10000))
   rw [e,List.length_append,show (fourP (u % 10000)).length=4 from rfl]
   omega
  rw [padP_done hl,e]
 ·have e0:Lib.decDigits (u / 10000) = [48]:=by rw [show u / 10000=0 by omega,dd_small (by omega)];rfl
  have em:u % 10000=u:=by omega
  rw [e0,em]
  have z:(48:UInt8)=UInt8.ofNat (48+0):=rfl
  by_cases h1:u<10
  ·rw [dd_small h1]
   unfold padP fourP
   rw [show u / 1000=0 by omega,show u / 100 % 10=0 by omega,show u / 10 % 10=0 by omega,show u % 10=u by omega]
   rfl
  ·by_cases h2:u<100
   ·rw [dd_big h1,dd_small (by omega)]
    unfold padP fourP
    rw [show u / 1000=0 by omega,show u / 100 % 10=0 by omega,show u / 10 % 10=u / 10 by omega]
    rfl
   ·by_cases h3:u<1000
    ·rw [dd_big h1,dd_big (by omega),dd_small (by omega)]
     unfold padP fourP
     rw [show u / 1000=0 by omega,show u / 100 % 10=u / 10 / 10 by omega]
     rfl
    ·rw [dd_big h1,dd_big (by omega),dd_big (by omega),dd_small (by omega)]
     unfold padP fourP
     rw [show u / 1000=u / 10 / 10 / 10 by omega,show u / 100 % 10=u / 10 / 10 % 10 by omega]
     rfl
theorem trim_snoc (l:List UInt8):Lib.trimRightB (l ++ [48]) 48=Lib.trimRightB l 48:=by
 unfold Lib.trimRightB
 rw [List.reverse_append]
 simp
theorem trim_stop {l:List UInt8} {c:UInt8} (h:c≠48):Lib.trimRightB (l ++ [c]) 48=l ++ [c]:=by
 unfold Lib.trimRightB
 rw [List.reverse_append]
 simp [h]
theorem trim_four {p:Nat} (hp:p<10000):Lib.trimRightB (fourP p) 48 = []↔p=0:=by
 constructor
 ·intro h
  have h1:=trim_nil h
  unfold fourP at h1
  have g1:=congrArg UInt8.toNat (h1 (UInt8.ofNat (48+p / 1000)) (by simp))
  have g2:=congrArg UInt8.toNat (h1 (UInt8.ofNat (48+p / 100 % 10)) (by simp))
  have g3:=congrArg UInt8.toNat (h1 (UInt8.ofNat (48+p / 10 % 10)) (by simp))
  have g4:=congrArg UInt8.toNat (h1 (UInt8.ofNat (48+p % 10)) (by simp))
  rw [dig_nat (by omega)] at g1 g2 g3 g4
  have e48:(48:UInt8).toNat=48:=rfl
  rw [e48] at g1 g2 g3 g4
  omega
 ·rintro rfl
  decide
theorem text_is (a:Int):textD a=(if a<0 then [45] else [])++(Lib.decDigits (a.natAbs / 10000)++if Lib.trimRightB (fourP (a.natAbs % 10000)) 48 = [] then [] else 46::Lib.trimRightB (fourP (a.natAbs % 10000)) 48):=by
 unfold textD placesP
 have hp:a.natAbs % 10000<10000:=by omega
 rw [dd_four hp]
 by_cases h0:a.natAbs % 10000=0
 ·rw [if_pos h0,if_pos ((trim_four hp).2 h0)]
 ·rw [if_neg h0,if_neg fun h=>h0 ((trim_four hp).1 h)]
def fixedP (r:Int) (k:Nat):List UInt8:=(if r<0 then [45] else [])++(Lib.decDigits (r.natAbs / 10000)++if k=0 then [] else 46::(fourP (r.natAbs % 10000)).take k)
end Go.A
namespace Go.A
open Go.Proofs
theorem take_one {s:List UInt8} {i:Nat} {c:UInt8} (h:s[i]? = some c):(s.take (i+1)).drop i = [c]:=by
 obtain ⟨hl,hc⟩:=List.getElem?_eq_some_iff.1 h
 rw [List.take_add_one,h,Option.toList_some,List.drop_append,List.drop_of_length_le (by rw [List.length_take];omega),List.length_take,Nat.min_eq_left (by omega),Nat.sub_self]
 rfl
theorem allD_nil:AllD []:=fun _ h=>by cases h
set_option maxHeartbeats 1000000 in
theorem rparse_ok (s:List UInt8) (hs:s.length<=100000):Pure Tryz.prog 65 [.str s] (resAV (parseD s)):=by
 intro σ
 obtain ⟨F,hF⟩:∃ F,F=ACode.wp Tryz.prog c65_50:=⟨_,rfl⟩
 have fin:∀ (a:AFr) (m:Bool) (b:List UInt8),b.length<=100000->(a 0 = .str b/\a 4 = .bool m)->F (RetQ [.t 2,.t 3] fun v σ'=>v=resAV (rpEnd m (rp b 0 [] []))/\σ'=σ) a σ:=by
  intro a m b hb hf
  rw [hF]
  obtain ⟨G,hG⟩:∃ G,G=ACode.wp Tryz.prog c65_48:=⟨_,rfl⟩
  have fin2:∀ (a:AFr) (w p:List UInt8) (d:Nat),w.length+p.length<=100000->d<=100000->(a 4 = .bool m/\a 5 = .str w/\a 6 = .str p/\a 7 = .int .i64 d)->(AllD w/\AllD p)->G (RetQ [.t 2,.t 3] fun v σ'=>v=resAV (rpEnd m (some (w,p,d)))/\σ'=σ) a σ:=by
   intro a w p d hwp hd hf ⟨hw,hp⟩
   rw [hG]
   simp only [rpEnd]
   by_cases h1:1<d
   ·have h1':(1:Int)<d:=by omega
    rw [if_pos (.inl h1)]
    simp (disch:=first|assumption|omega|(simp only [List.length_append,List.length_cons,List.length_nil];omega)) only [go_sem,hf,h1']
    exact retC_by (by repeat' (first|exact Drop.refl _|with_reducible refine Drop.off ?_ (by assumption))) (.refl _) ⟨rfl,rfl⟩
   have h1':¬ (1:Int)<d:=by omega
   by_cases h2:w = []
   ·subst h2
    rw [if_pos (.inr (.inl rfl))]
    simp (disch:=first|assumption|omega|(simp only [List.length_append,List.length_cons,List.length_nil];omega)) only [go_sem,hf,h1']
    exact retC_by (by repeat' (first|exact Drop.refl _|with_reducible refine Drop.off ?_ (by assumption))) (.refl _) ⟨rfl,rfl⟩
   have h2':¬ (w.length:Int)=0:=by
    have:=List.length_pos_iff.2 h2
    omega
   by_cases h3:d=1/\p = []
   ·obtain ⟨rfl,rfl⟩:=h3
    rw [if_pos (.inr (.inr (.inl ⟨rfl,rfl⟩)))]
    have e1:((1:Nat):Int)=1:=rfl
    simp (disch:=first|assumption|omega|(simp only [List.length_append,List.length_cons,List.length_nil];omega)) only [go_sem,hf,h1',h2',e1]
    exact retC_by (by repeat' (first|exact Drop.refl _|with_reducible refine Drop.off ?_ (by assumption))) (.refl _) ⟨rfl,rfl⟩
   have h3':¬ ((d:Int)=1/\(p.length:Int)=0):=by
    rintro ⟨e1,e2⟩
    exact h3 ⟨by omega,List.eq_nil_of_length_eq_zero (by omega)⟩
   by_cases h4:4<p.length
   ·have h4':(4:Int)<p.length:=by omega
    rw [if_pos (.inr (.inr (.inr h4)))]
    by_cases hd1:(d:Int)=1
    ·have hp0:¬ (p.length:Int)=0:=by omega
     simp (disch:=first|assumption|omega|(simp only [List.length_append,List.length_cons,List.length_nil];omega)) only [go_sem,hf,h1',h2',hd1,hp0,h4']
     exact retC_by (by repeat' (first|exact Drop.refl _|with_reducible refine Drop.off ?_ (by assumption))) (.refl _) ⟨rfl,rfl⟩
    ·simp (disch:=first|assumption|omega|(simp only [List.length_append,List.length_cons,List.length_nil];omega)) only [go_sem,hf,h1',h2',hd1,h4']
     exact retC_by (by repeat' (first|exact Drop.refl _|with_reducible refine Drop.off ?_ (by assumption))) (.refl _) ⟨rfl,rfl⟩
   have h4':¬ (4:Int)<p.length:=by omega
   rw [if_neg (by rintro (h|h|h|h)<;>contradiction)]
   have hT:=strip_ok (w++(p++List.replicate (4-p.length) 48)) (by simp;omega)
   have hV:=value_ok m (stripP (w++(p++List.replicate (4-p.length) 48))) (allD_strip (allD_app hw (allD_app hp (allD_zeros _)))) (by
    have:=(List.dropWhile_sublist (p:=(· == 48)) (l:=w++(p++List.replicate (4-p.length) 48))).length_le
    unfold stripP
    simp at this ⊢
    omega)
   generalize valP m (stripP (w++(p++List.replicate (4-p.length) 48)))=V at *
   simp only [resAV] at hV ⊢
   obtain ⟨H,hH⟩:∃ H,H=ACode.wp Tryz.prog c65_47:=⟨_,rfl⟩
   have fin3:∀ (a:AFr),(a 4 = .bool m/\a 5 = .str w/\a 6 = .str p)->H (RetQ [.t 2,.t 3] fun v σ'=>v = .tuple [.int .i64 (V.getD 0),.bool V.isSome]/\σ'=σ) a σ:=by
    intro a hf
    rw [hH]
    simp (disch:=first|assumption|omega|(simp only [List.length_append,List.length_cons,List.length_nil];omega)) only [go_sem,hf]
    refine wp_loop_on (fun (j:Nat) a1 s2=>p.length+j<=4/\(a1 4 = .bool m/\a1 5 = .str w/\a1 6 = .str (p++List.replicate j 48))/\s2=σ) (fun j=>4-j) 0 ⟨by omega,?_,rfl⟩ ?_
    ·simp (disch:=first|assumption|omega|(simp only [List.length_append,List.length_cons,List.length_nil];omega)) only [go_sem,hf]
     simp
    rintro j a1 s2 ⟨hj,hf,rfl⟩
    obtain ⟨X,hX⟩:∃ X,p++List.replicate j 48=X:=⟨_,rfl⟩
    have hXl:X.length=p.length+j:=by rw [<-hX];simp
    rw [hX] at hf
    by_cases hlt:p.length+j<4
    ·have g3:(X.length:Int)<4:=by omega
     have e1:binS .add X [48]=some (.str (p++List.replicate (j+1) 48)):=by
      rw [binS_add (by simp;omega),List.replicate_succ',← List.append_assoc,hX]
     simp (disch:=first|assumption|omega|(simp only [List.length_append,List.length_cons,List.length_nil];omega)) only [go_sem,hf,g3,e1]
     exact ⟨j+1,by omega,by omega,rfl⟩
    ·have g3:¬ (X.length:Int)<4:=by omega
     obtain rfl:j=4-p.length:=by omega
     rw [hX] at hT hV
     have e1:binS .add w X=some (.str (w++X)):=binS_add (by omega)
     simp (disch:=first|assumption|omega|(simp only [List.length_append,List.length_cons,List.length_nil];omega)) only [go_sem,hf,g3,e1]
     refine hT.use ?_
     simp (disch:=first|assumption|omega|(simp only [List.length_append,List.length_cons,List.length_nil];omega)) only [go_sem,hf]
     refine hV.use ?_
     simp (disch:=first|assumption|omega|(simp only [List.length_append,List.length_cons,List.length_nil];omega)) only [go_sem]
     exact retC_by (by repeat' (first|exact Drop.refl _|with_reducible refine Drop.off ?_ (by assumption))) (.refl _) ⟨rfl,rfl⟩
   by_cases hd1:(d:Int)=1
   ·have hp0:¬ (p.length:Int)=0:=fun h=>h3' ⟨hd1,h⟩
    simp (disch:=first|assumption|omega|(simp only [List.length_append,List.length_cons,List.length_nil];omega)) only [go_sem,hf,h1',h2',hd1,hp0,h4',←hH]
    refine fin3 _ ?_
    simp (disch:=first|assumption|omega|(simp only [List.length_append,List.length_cons,List.length_nil];omega)) only [go_sem,hf]
   ·simp (disch:=first|assumption|omega|(simp only [List.length_append,List.length_cons,List.length_nil];omega)) only [go_sem,hf,h1',h2',hd1,h4',←hH]
    refine fin3 _ ?_
    simp (disch:=first|assumption|omega|(simp only [List.length_append,List.length_cons,List.length_nil];omega)) only [go_sem,hf]
  simp (disch:=first|assumption|omega|(simp only [List.length_append,List.length_cons,List.length_nil];omega)) only [go_sem,←hG]
  refine wp_loop_on (fun (i:Nat) a1 s2=>i<=b.length/\(∃ (w p:List UInt8) (d:Nat),rp b 0 [] []=rp (b.drop i) d w p/\w.length+p.length<=i/\d<=i/\(AllD w/\AllD p)/\(a1 5 = .str w/\a1 6 = .str p/\a1 7 = .int .i64 d))/\(a1 0 = .str b/\a1 4 = .bool m/\a1 8 = .int .i64 i)/\s2=σ) (fun i=>b.length-i) 0 ⟨Nat.zero_le _,⟨[],[],0,rfl,by simp,by omega,⟨allD_nil,allD_nil⟩,?_⟩,?_,rfl⟩ ?_
  ·simp (disch:=first|assumption|omega|(simp only [List.length_append,List.length_cons,List.length_nil];omega)) only [go_sem,hf]
  ·simp (disch:=first|assumption|omega|(simp only [List.length_append,List.length_cons,List.length_nil];omega)) only [go_sem,hf]
  rintro i a1 s2 ⟨hi,⟨w,p,d,hr,hl,hdi,⟨hw,hp⟩,hg⟩,hf,rfl⟩
  by_cases hlt:i<b.length
  ·have hidx : b[i]? = some (b[i]'hlt) := List.getElem?_eq_getElem hlt
   rw [List.drop_eq_getElem_cons hlt] at hr
   obtain ⟨c, hc⟩ : ∃ c, b[i]'hlt = c := ⟨_, rfl⟩
   rw [hc] at hidx hr
   have ht1:=take_one hidx
   have hn1:((i:Int)+1).toNat=i+1:=by omega
   have hlt':(i:Int)<b.length:=by omega
   have hlt2:(i:Int)+1<=b.length:=by omega
   rw [rp] at hr
   by_cases h46:c=46
   ·have h46':(c.toNat:Int)=46:=by rw [h46];rfl
    rw [if_pos h46] at hr
    simp (disch:=first|assumption|omega|(simp only [List.length_append,List.length_cons,List.length_nil];omega)) only [go_sem,hf,hg,hlt',hidx,h46']
    exact ⟨i+1,by omega,by omega,⟨w,p,d+1,hr,by omega,by omega,⟨hw,hp⟩,rfl,rfl,rfl⟩,rfl⟩
   have h46':¬ (c.toNat:Int)=46:=fun h=>h46 (UInt8.toNat_inj.1 (by have e:(46:UInt8).toNat=46:=rfl;omega))
   rw [if_neg h46] at hr
   by_cases h1:c.toNat<48
   ·have h1':(c.toNat:Int)<48:=by omega
    rw [if_pos (.inl h1)] at hr
    rw [hr]
    simp (disch:=first|assumption|omega|(simp only [List.length_append,List.length_cons,List.length_nil];omega)) only [go_sem,hf,hg,hlt',hidx,h46',h1']
    exact retC_by (by repeat' (first|exact Drop.refl _|with_reducible refine Drop.off ?_ (by assumption))) (.refl _) ⟨rfl,rfl⟩
   have h1':¬ (c.toNat:Int)<48:=by omega
   by_cases h2:57<c.toNat
   ·have h2':(57:Int)<c.toNat:=by omega
    rw [if_pos (.inr h2)] at hr
    rw [hr]
    simp (disch:=first|assumption|omega|(simp only [List.length_append,List.length_cons,List.length_nil];omega)) only [go_sem,hf,hg,hlt',hidx,h46',h1',h2']
    exact retC_by (by repeat' (first|exact Drop.refl _|with_reducible refine Drop.off ?_ (by assumption))) (.refl _) ⟨rfl,rfl⟩
   have h2':¬ (57:Int)<c.toNat:=by omega
   rw [if_neg (by omega)] at hr
   have hcD:AllD [c]:=fun x hx=>by rw [List.mem_singleton.1 hx];omega
   by_cases hd0:d=0
   ·have hd0':(d:Int)=0:=by omega
    rw [if_pos hd0] at hr
    have e1:binS .add w [c]=some (.str (w ++ [c])):=binS_add (by simp;omega)
    simp (disch:=first|assumption|omega|(simp only [List.length_append,List.length_cons,List.length_nil];omega)) only [go_sem,hf,hg,hlt',hlt2,hidx,h46',h1',h2',hd0',hn1,ht1,e1]
    exact ⟨i+1,by omega,by omega,⟨w ++ [c],p,d,hr,by simp;omega,by omega,⟨allD_app hw hcD,hp⟩,by rw [hd0'];exact ⟨rfl,rfl,rfl⟩⟩,rfl⟩
   ·have hd0':¬ (d:Int)=0:=by omega
    rw [if_neg hd0] at hr
    have e1:binS .add p [c]=some (.str (p ++ [c])):=binS_add (by simp;omega)
    simp (disch:=first|assumption|omega|(simp only [List.length_append,List.length_cons,List.length_nil];omega)) only [go_sem,hf,hg,hlt',hlt2,hidx,h46',h1',h2',hd0',hn1,ht1,e1]
    exact ⟨i+1,by omega,by omega,⟨w,p ++ [c],d,hr,by simp;omega,by omega,⟨hw,allD_app hp hcD⟩,rfl,rfl,rfl⟩,rfl⟩
  ·have hlt':¬ (i:Int)<b.length:=by omega
   rw [List.drop_eq_nil_of_le (by omega),rp] at hr
   rw [hr]
   simp (disch:=first|assumption|omega|(simp only [List.length_append,List.length_cons,List.length_nil];omega)) only [go_sem,hf,hlt',←hG]
   refine fin2 _ w p d (by omega) (by omega) ?_ ⟨hw,hp⟩
   simp (disch:=first|assumption|omega|(simp only [List.length_append,List.length_cons,List.length_nil];omega)) only [go_sem,hf,hg]
 unfold parseD
 dsimp only
 rw [<-rp_parse]
 refine a65 (by simp) ?_
 cases s with
 | nil=>
   simp only [List.head?_nil,reduceCtorEq,if_false,decide_false]
   simp (disch:=first|assumption|omega|(simp only [List.length_append,List.length_cons,List.length_nil];omega)) only [go_sem,←hF]
   refine fin _ false [] (by simp) ?_
   simp (disch:=first|assumption|omega|(simp only [List.length_append,List.length_cons,List.length_nil];omega)) only [go_sem]
 | cons c l=>
   obtain ⟨t,ht⟩:∃ t,t=c::l:=⟨_,rfl⟩
   have hidx:t[0]? = some c:=by rw [ht];rfl
   have hd1:t.drop 1=l:=by rw [ht];rfl
   have hml:t.length=l.length+1:=by rw [ht];rfl
   have hh:t.head? = some c:=by rw [ht];rfl
   rw [<-ht] at hs ⊢
   rw [hh]
   have g0:(0:Int)<t.length:=by omega
   have g1:(1:Int)<=t.length:=by omega
   by_cases h45:c=45
   ·have h45':(c.toNat:Int)=45:=by rw [h45];rfl
    rw [if_pos (by rw [h45]),decide_eq_true (by rw [h45]),hd1]
    simp (disch:=first|assumption|omega|(simp only [List.length_append,List.length_cons,List.length_nil];omega)) only [go_sem,hidx,g0,g1,h45',hd1,List.take_length,←hF]
    refine fin _ true l (by omega) ?_
    simp (disch:=first|assumption|omega|(simp only [List.length_append,List.length_cons,List.length_nil];omega)) only [go_sem]
   ·have h45':¬ (c.toNat:Int)=45:=fun h=>h45 (UInt8.toNat_inj.1 (by have e:(45:UInt8).toNat=45:=rfl;omega))
    have hne:¬ (some c=some (45:UInt8)):=by simpa using h45
    rw [if_neg hne,decide_eq_false hne]
    simp (disch:=first|assumption|omega|(simp only [List.length_append,List.length_cons,List.length_nil];omega)) only [go_sem,hidx,g0,h45',←hF]
    refine fin _ false t hs ?_
    simp (disch:=first|assumption|omega|(simp only [List.length_append,List.length_cons,List.length_nil];omega)) only [go_sem]
end Go.A
namespace Go.A
open Go.Proofs
def intP (n:Int):Option Int:=if n.natAbs<=99999999999999 then some (n*10000) else none
theorem made_hi (m:Bool) {hi lo:Int} (h:0<hi):Pure Tryz.prog 108 [.bool m,.int .u64 hi,.int .u64 lo] (resAV none):=by
 intro σ
 refine a108 (by simp) ?_
 simp (disch:=first|assumption|omega|(simp only [List.length_append,List.length_cons,List.length_nil];omega)) only [go_sem,h]
 exact retC_by (by repeat' (first|exact Drop.refl _|with_reducible refine Drop.off ?_ (by assumption))) (.refl _) ⟨rfl,rfl⟩
theorem int_ok (n:Int) (h0 : -9223372036854775808<=n) (h1:n<=9223372036854775807):Pure Tryz.prog 87 [.int .i64 n] (resAV (intP n)):=by
 intro σ
 have hM:=mul64_ok n.natAbs 10000 (by omega) (by omega)
 have hD:Pure Tryz.prog 108 [.bool (decide (n<0)),.int .u64 ((n.natAbs*10000 / 18446744073709551616:Nat):Int),.int .u64 ((n.natAbs*10000 % 18446744073709551616:Nat):Int)] (resAV (intP n)):=by
  unfold intP
  by_cases hb:n.natAbs*10000 / 18446744073709551616=0
  ·rw [hb]
   have:=made_ok (decide (n<0)) (n.natAbs*10000 % 18446744073709551616) (by omega)
   have he:madeP (decide (n<0)) (n.natAbs*10000 % 18446744073709551616)=if n.natAbs<=99999999999999 then some (n*10000) else none:=by
    unfold madeP
    by_cases hs:n.natAbs<=99999999999999
    ·rw [if_pos hs,if_pos (by omega)]
     congr 1
     simp only [decide_eq_true_eq]
     split<;>omega
    ·rw [if_neg hs,if_neg (by omega)]
   rw [he] at this
   exact this
  ·rw [if_neg (by omega)]
   exact made_hi _ (by omega)
 generalize intP n=o at *
 simp only [resAV] at hD ⊢
 obtain ⟨H,hH⟩:∃ H:Int,((n.natAbs*10000 / 18446744073709551616:Nat):Int)=H:=⟨_,rfl⟩
 obtain ⟨L,hL⟩:∃ L:Int,((n.natAbs*10000 % 18446744073709551616:Nat):Int)=L:=⟨_,rfl⟩
 rw [hH,hL] at hM hD
 refine a87 (by simp) ?_
 by_cases hn:n<0
 ·have e1:IntKind.u64.wrap (0-IntKind.u64.wrap n)=((n.natAbs:Nat):Int):=by rw [IntKind.wrap_u64,IntKind.wrap_u64];omega
  simp (disch:=first|assumption|omega|(simp only [List.length_append,List.length_cons,List.length_nil];omega)) only [go_sem,hn,e1]
  refine hM.use ?_
  rw [decide_eq_true hn] at hD
  simp (disch:=first|assumption|omega|(simp only [List.length_append,List.length_cons,List.length_nil];omega)) only [go_sem,hn]
  refine hD.use ?_
  simp (disch:=first|assumption|omega|(simp only [List.length_append,List.length_cons,List.length_nil];omega)) only [go_sem]
  exact retC_by (by repeat' (first|exact Drop.refl _|with_reducible refine Drop.off ?_ (by assumption))) (.refl _) ⟨rfl,rfl⟩
 ·have e1:IntKind.u64.wrap n=((n.natAbs:Nat):Int):=by rw [IntKind.wrap_u64];omega
  simp (disch:=first|assumption|omega|(simp only [List.length_append,List.length_cons,List.length_nil];omega)) only [go_sem,hn,e1]
  refine hM.use ?_
  rw [decide_eq_false hn] at hD
  simp (disch:=first|assumption|omega|(simp only [List.length_append,List.length_cons,List.length_nil];omega)) only [go_sem,hn]
  refine hD.use ?_
  simp (disch:=first|assumption|omega|(simp only [List.length_append,List.length_cons,List.length_nil];omega)) only [go_sem]
  exact retC_by (by repeat' (first|exact Drop.refl _|with_reducible refine Drop.off ?_ (by assumption))) (.refl _) ⟨rfl,rfl⟩
def fixAV (o:Option Int) (p:Int):AV:=
 match o with
 | some r => .tuple [.str (fixedP r p.toNat),.bool true]
 | none => .tuple [.str [],.bool false]
theorem fourP_len (p:Nat):(fourP p).length=4:=rfl
theorem fixed_ok {σ:ASt} (h:Tab σ) {a p:Int} {o:Option Int} (h0:0<=p) (h4:p<=4) (hR:ACalls Tryz.prog 110 [.int .i64 a,.int .i64 p] σ fun v σ'=>v=resAV o/\σ'=σ) (ho:∀ r,o=some r->r.natAbs<=999999999999999999) :
  ACalls Tryz.prog 81 [.int .i64 a,.int .i64 p] σ fun v σ'=>v=fixAV o p/\σ'=σ:=by
 have g1:¬ p<0:=by omega
 have g2:¬ 4<p:=by omega
 refine a81 (by simp) ?_
 cases o with
 | none=>
   simp only [resAV,Option.getD_none,Option.isSome_none] at hR
   simp (disch:=first|assumption|omega|(simp only [List.length_append,List.length_cons,List.length_nil];omega)) only [go_sem,g1,g2]
   refine hR.mono ?_
   rintro v σ' ⟨rfl,rfl⟩
   simp (disch:=first|assumption|omega|(simp only [List.length_append,List.length_cons,List.length_nil];omega)) only [go_sem]
   exact retC_by (by repeat' (first|exact Drop.refl _|with_reducible refine Drop.off ?_ (by assumption))) (.refl _) ⟨rfl,rfl⟩
 | some r=>
   have hr:=ho r rfl
   simp only [resAV,Option.getD_some,Option.isSome_some] at hR
   simp only [fixAV]
   have hS:=size_ok r (by omega) (by omega)
   obtain ⟨T,hT⟩:∃ T,fixedP r p.toNat=T:=⟨_,rfl⟩
   rw [hT]
   unfold fixedP at hT
   obtain ⟨s,hs⟩:∃ s,r.natAbs=s:=⟨_,rfl⟩
   rw [hs] at hS hT hr
   have hd:(s:Int).tdiv 10000=((s / 10000:Nat):Int):=rfl
   have hm:(s:Int).tmod 10000=((s % 10000:Nat):Int):=rfl
   have hmm:s % 10000<10000:=Nat.mod_lt _ (by omega)
   have hw:s / 10000<=99999999999999:=by omega
   obtain ⟨m,hme⟩:∃ m,s % 10000=m:=⟨_,rfl⟩
   obtain ⟨q,hqe⟩:∃ q,s / 10000=q:=⟨_,rfl⟩
   rw [hme] at hmm hm hT
   rw [hqe] at hd hw hT
   have hqw:IntKind.u64.wrap (q:Int)=q:=by rw [IntKind.wrap_u64];omega
   have hql:(Lib.decDigits q).length<=15:=dd_len 14 q (by omega)
   obtain ⟨F,hF⟩:∃ F,F=ACode.wp Tryz.prog c81_24:=⟨_,rfl⟩
   have fin:∀ (a1:AFr) (X:List UInt8),X.length<=30->(if r<0 then [45] else [])++X=T->(a1 6 = .int .i64 r/\a1 9 = .str X)->F (RetQ [.t 4,.t 5] fun v σ'=>v = .tuple [.str T,.bool true]/\σ'=σ) a1 σ:=by
    intro a1 X hX hXT hf
    rw [hF]
    by_cases hn:r<0
    ·rw [if_pos hn] at hXT
     have e1:binS .add [45] X=some (.str T):=by rw [binS_add (by simp;omega),hXT]
     simp (disch:=first|assumption|omega|(simp only [List.length_append,List.length_cons,List.length_nil];omega)) only [go_sem,hf,hn,e1]
     exact retC_by (by repeat' (first|exact Drop.refl _|with_reducible refine Drop.off ?_ (by assumption))) (.refl _) ⟨rfl,rfl⟩
    ·rw [if_neg hn,List.nil_append] at hXT
     subst hXT
     simp (disch:=first|assumption|omega|(simp only [List.length_append,List.length_cons,List.length_nil];omega)) only [go_sem,hf,hn]
     exact retC_by (by repeat' (first|exact Drop.refl _|with_reducible refine Drop.off ?_ (by assumption))) (.refl _) ⟨rfl,rfl⟩
   simp (disch:=first|assumption|omega|(simp only [List.length_append,List.length_cons,List.length_nil];omega)) only [go_sem,g1,g2,←hF]
   refine hR.mono ?_
   rintro v σ' ⟨rfl,rfl⟩
   simp (disch:=first|assumption|omega|(simp only [List.length_append,List.length_cons,List.length_nil];omega)) only [go_sem,←hF]
   refine hS.use ?_
   simp (disch:=first|assumption|omega|(simp only [List.length_append,List.length_cons,List.length_nil];omega)) only [go_sem,hd,hqw,←hF]
   refine (fmt_ok h (u:=q) (by omega)).mono ?_
   rintro v σ' ⟨rfl,rfl⟩
   by_cases hp:0<p
   ·obtain ⟨k,hk⟩:∃ k,p.toNat=k:=⟨_,rfl⟩
    rw [hk,if_neg (show ¬ k=0 by omega)] at hT
    have hDl:(Lib.decDigits (10000+m)).length<=5:=dd_len 4 _ (by omega)
    have hF4:=fmt_ok h (u:=10000+m) (by omega)
    rw [show (((10000+m:Nat):Int))=(10000:Int)+m by omega] at hF4
    have ht:=dd_four hmm
    have htl:((Lib.decDigits (10000+m)).take (k+1)).drop 1=(fourP m).take k:=by
     rw [<-ht]
     cases hd5:Lib.decDigits (10000+m) with
     | nil=>exact absurd hd5 (dd_len_pos _)
     | cons c l=>simp
    have hD5:(Lib.decDigits (10000+m)).length=5:=by
     have:=congrArg List.length ht
     rw [List.length_tail,fourP_len] at this
     omega
    generalize Lib.decDigits (10000+m)=D at *
    have n1:(1+p).toNat=k+1:=by omega
    have g5:1+p<=D.length:=by omega
    have g6:(1:Int)<=1+p:=by omega
    have hfl:((fourP m).take k).length<=4:=by rw [List.length_take,fourP_len];omega
    generalize (fourP m).take k=Y at *
    have e1:binS .add [46] Y=some (.str (46::Y)):=binS_add (by simp;omega)
    have e2:binS .add (Lib.decDigits q) (46::Y)=some (.str (Lib.decDigits q++46::Y)):=binS_add (by simp;omega)
    simp (disch:=first|assumption|omega|(simp only [List.length_append,List.length_cons,List.length_nil];omega)) only [go_sem,hp,hm,←hF]
    refine hF4.mono ?_
    rintro v σ' ⟨rfl,rfl⟩
    simp (disch:=first|assumption|omega|(simp only [List.length_append,List.length_cons,List.length_nil];omega)) only [go_sem,n1,g5,g6,htl,e1,e2,←hF]
    refine fin _ (Lib.decDigits q++46::Y) (by simp;omega) hT ?_
    simp (disch:=first|assumption|omega|(simp only [List.length_append,List.length_cons,List.length_nil];omega)) only [go_sem]
   ·have hp0:p.toNat=0:=by omega
    rw [hp0,if_pos (show (0:Nat)=0 from rfl),List.append_nil] at hT
    simp (disch:=first|assumption|omega|(simp only [List.length_append,List.length_cons,List.length_nil];omega)) only [go_sem,hp,←hF]
    refine fin _ (Lib.decDigits q) (by omega) hT ?_
    simp (disch:=first|assumption|omega|(simp only [List.length_append,List.length_cons,List.length_nil];omega)) only [go_sem]
theorem fixed_no {a p:Int} (h:p<0\/4<p):Pure Tryz.prog 81 [.int .i64 a,.int .i64 p] (.tuple [.str [],.bool false]):=by
 intro σ
 refine a81 (by simp) ?_
 by_cases h0:p<0
 ·simp (disch:=first|assumption|omega|(simp only [List.length_append,List.length_cons,List.length_nil];omega)) only [go_sem,h0]
  exact retC_by (by repeat' (first|exact Drop.refl _|with_reducible refine Drop.off ?_ (by assumption))) (.refl _) ⟨rfl,rfl⟩
 ·have h4:4<p:=by omega
  simp (disch:=first|assumption|omega|(simp only [List.length_append,List.length_cons,List.length_nil];omega)) only [go_sem,h0,h4]
  exact retC_by (by repeat' (first|exact Drop.refl _|with_reducible refine Drop.off ?_ (by assumption))) (.refl _) ⟨rfl,rfl⟩
theorem rfixed_no {a p:Int} (h:p<0\/4<p):Pure Tryz.prog 27 [.int .i64 a,.int .i64 p] (.tuple [.str [],.bool false]):=by
 intro σ
 refine a27 (by simp) ?_
 by_cases h0:p<0
 ·simp (disch:=first|assumption|omega|(simp only [List.length_append,List.length_cons,List.length_nil];omega)) only [go_sem,h0]
  exact retC_by (by repeat' (first|exact Drop.refl _|with_reducible refine Drop.off ?_ (by assumption))) (.refl _) ⟨rfl,rfl⟩
 ·have h4:4<p:=by omega
  simp (disch:=first|assumption|omega|(simp only [List.length_append,List.length_cons,List.length_nil];omega)) only [go_sem,h0,h4]
  exact retC_by (by repeat' (first|exact Drop.refl _|with_reducible refine Drop.off ?_ (by assumption))) (.refl _) ⟨rfl,rfl⟩
theorem rfixed_ok {a p:Int} {o:Option Int} (h0:0<=p) (h4:p<=4) (hR:Pure Tryz.prog 67 [.int .i64 a,.int .i64 p] (resAV o)) (ho:∀ r,o=some r->r.natAbs<=999999999999999999) :
  Pure Tryz.prog 27 [.int .i64 a,.int .i64 p] (fixAV o p):=by
 intro σ
 have g1:¬ p<0:=by omega
 have g2:¬ 4<p:=by omega
 refine a27 (by simp) ?_
 cases o with
 | none=>
   simp only [resAV,Option.getD_none,Option.isSome_none] at hR
   simp (disch:=first|assumption|omega|(simp only [List.length_append,List.length_cons,List.length_nil];omega)) only [go_sem,g1,g2]
   refine hR.use ?_
   simp (disch:=first|assumption|omega|(simp only [List.length_append,List.length_cons,List.length_nil];omega)) only [go_sem]
   exact retC_by (by repeat' (first|exact Drop.refl _|with_reducible refine Drop.off ?_ (by assumption))) (.refl _) ⟨rfl,rfl⟩
 | some r=>
   have hr:=ho r rfl
   simp only [resAV,Option.getD_some,Option.isSome_some] at hR
   simp only [fixAV]
   have hS:=rsize_ok r hr
   have hDg:=rdigits_ok r.natAbs (by omega)
   have hpad:=pad_dd r.natAbs
   have hdl:(Lib.decDigits r.natAbs).length<=18:=dd_len 17 _ (by omega)
   obtain ⟨T,hT⟩:∃ T,fixedP r p.toNat=T:=⟨_,rfl⟩
   rw [hT]
   unfold fixedP at hT
   generalize r.natAbs / 10000=q at *
   generalize r.natAbs % 10000=m at *
   generalize Lib.decDigits r.natAbs=S at *
   have hql:(Lib.decDigits q).length<=19:=by
    have:=congrArg List.length hpad
    unfold padP at this
    simp [fourP_len] at this
    omega
   generalize Lib.decDigits q=W at *
   obtain ⟨F,hF⟩:∃ F,F=ACode.wp Tryz.prog c27_32:=⟨_,rfl⟩
   have fin:∀ (a1:AFr) (X:List UInt8),X.length<=30->(if r<0 then [45] else [])++X=T->(a1 6 = .int .i64 r/\a1 9 = .str X)->F (RetQ [.t 4,.t 5] fun v σ'=>v = .tuple [.str T,.bool true]/\σ'=σ) a1 σ:=by
    intro a1 X hX hXT hf
    rw [hF]
    by_cases hn:r<0
    ·rw [if_pos hn] at hXT
     have e1:binS .add [45] X=some (.str T):=by rw [binS_add (by simp;omega),hXT]
     simp (disch:=first|assumption|omega|(simp only [List.length_append,List.length_cons,List.length_nil];omega)) only [go_sem,hf,hn,e1]
     exact retC_by (by repeat' (first|exact Drop.refl _|with_reducible refine Drop.off ?_ (by assumption))) (.refl _) ⟨rfl,rfl⟩
    ·rw [if_neg hn,List.nil_append] at hXT
     subst hXT
     simp (disch:=first|assumption|omega|(simp only [List.length_append,List.length_cons,List.length_nil];omega)) only [go_sem,hf,hn]
     exact retC_by (by repeat' (first|exact Drop.refl _|with_reducible refine Drop.off ?_ (by assumption))) (.refl _) ⟨rfl,rfl⟩
   simp (disch:=first|assumption|omega|(simp only [List.length_append,List.length_cons,List.length_nil];omega)) only [go_sem,g1,g2,←hF]
   refine hR.use ?_
   simp (disch:=first|assumption|omega|(simp only [List.length_append,List.length_cons,List.length_nil];omega)) only [go_sem,←hF]
   refine hS.use ?_
   simp (disch:=first|assumption|omega|(simp only [List.length_append,List.length_cons,List.length_nil];omega)) only [go_sem,←hF]
   refine hDg.use ?_
   simp (disch:=first|assumption|omega|(simp only [List.length_append,List.length_cons,List.length_nil];omega)) only [go_sem,←hF]
   refine wp_loop_on (fun (l:List UInt8) a1 s2=>padP l 4=W++fourP m/\l.length<=40/\(a1 1 = .int .i64 p/\a1 6 = .int .i64 r/\a1 8 = .str l)/\s2=σ) (fun l=>40-l.length) S ⟨hpad,by omega,?_,rfl⟩ ?_
   ·simp (disch:=first|assumption|omega|(simp only [List.length_append,List.length_cons,List.length_nil];omega)) only [go_sem]
   rintro l a1 s2 ⟨hpl,hl,hf,rfl⟩
   by_cases hle:l.length<=4
   ·have hle':(l.length:Int)<5:=by omega
    have e1:binS .add [48] l=some (.str (48::l)):=binS_add (by simp;omega)
    simp (disch:=first|assumption|omega|(simp only [List.length_append,List.length_cons,List.length_nil];omega)) only [go_sem,hf,hle',e1,←hF]
    exact ⟨48::l,by simp;omega,by rw [padP_more hle,hpl],by simp;omega,rfl⟩
   ·have hle':¬ (l.length:Int)<5:=by omega
    rw [padP_done (by omega)] at hpl
    have hll:l.length=W.length+4:=by rw [hpl];simp [fourP_len]
    have e0:(l.length:Int)-4=W.length:=by omega
    have n0:((W.length:Nat):Int).toNat=W.length:=by omega
    have t0:l.take W.length=W:=by rw [hpl];simp
    have g3:(W.length:Int)<=l.length:=by omega
    by_cases hp:0<p
    ·obtain ⟨k,hk⟩:∃ k,p.toNat=k:=⟨_,rfl⟩
     rw [hk,if_neg (show ¬ k=0 by omega)] at hT
     have n1:((W.length:Int)+p).toNat=W.length+k:=by omega
     have t1:(l.take (W.length+k)).drop W.length=(fourP m).take k:=by rw [hpl,List.take_append,List.drop_append];simp
     have g4:(W.length:Int)+p<=l.length:=by omega
     have g5:(W.length:Int)<=W.length+p:=by omega
     have hfl:((fourP m).take k).length<=4:=by rw [List.length_take,fourP_len];omega
     generalize (fourP m).take k=Y at *
     have e1:binS .add [46] Y=some (.str (46::Y)):=binS_add (by simp;omega)
     have e2:binS .add W (46::Y)=some (.str (W++46::Y)):=binS_add (by simp;omega)
     simp (disch:=first|assumption|omega|(simp only [List.length_append,List.length_cons,List.length_nil];omega)) only [go_sem,hf,hle',e0,n0,t0,g3,hp,n1,t1,g4,g5,e1,e2,←hF]
     refine fin _ (W++46::Y) (by simp;omega) hT ?_
     simp (disch:=first|assumption|omega|(simp only [List.length_append,List.length_cons,List.length_nil];omega)) only [go_sem,hf]
    ·have hp0:p.toNat=0:=by omega
     rw [hp0,if_pos (show (0:Nat)=0 from rfl),List.append_nil] at hT
     simp (disch:=first|assumption|omega|(simp only [List.length_append,List.length_cons,List.length_nil];omega)) only [go_sem,hf,hle',e0,n0,t0,g3,hp,←hF]
     refine fin _ W (by omega) hT ?_
     simp (disch:=first|assumption|omega|(simp only [List.length_append,List.length_cons,List.length_nil];omega)) only [go_sem,hf]
end Go.A
namespace Go.A
open Go.Proofs
theorem drtext_ok {a:Int} (ha:a.natAbs<=999999999999999999):Pure Tryz.prog 101 [.int .i64 a] (.str (textD a)):=by
 intro σ
 have hS:=rsize_ok a ha
 have hDg:=rdigits_ok a.natAbs (by omega)
 have hpad:=pad_dd a.natAbs
 have hdl:(Lib.decDigits a.natAbs).length<=18:=dd_len 17 _ (by omega)
 rw [text_is]
 have hm:a.natAbs % 10000<10000:=by omega
 generalize a.natAbs / 10000=q at *
 generalize a.natAbs % 10000=m at *
 generalize Lib.decDigits a.natAbs=S at *
 have hql:(Lib.decDigits q).length<=19:=by
  have:=congrArg List.length hpad
  unfold padP at this
  simp [fourP_len] at this
  omega
 generalize Lib.decDigits q=W at *
 refine a101 (by simp) ?_
 simp (disch:=first|assumption|omega|(simp only [List.length_append,List.length_cons,List.length_nil];omega)) only [go_sem]
 refine hS.use ?_
 simp (disch:=first|assumption|omega|(simp only [List.length_append,List.length_cons,List.length_nil];omega)) only [go_sem]
 refine hDg.use ?_
 simp (disch:=first|assumption|omega|(simp only [List.length_append,List.length_cons,List.length_nil];omega)) only [go_sem]
 refine wp_loop_on (fun (l:List UInt8) a1 s2=>padP l 4=W++fourP m/\l.length<=40/\(a1 0 = .int .i64 a/\a1 3 = .str l)/\s2=σ) (fun l=>40-l.length) S ⟨hpad,by omega,?_,rfl⟩ ?_
 ·simp (disch:=first|assumption|omega|(simp only [List.length_append,List.length_cons,List.length_nil];omega)) only [go_sem]
 rintro l a1 s2 ⟨hpl,hl,hf,rfl⟩
 by_cases hle:l.length<=4
 ·have hle':(l.length:Int)<5:=by omega
  have e1:binS .add [48] l=some (.str (48::l)):=binS_add (by simp;omega)
  simp (disch:=first|assumption|omega|(simp only [List.length_append,List.length_cons,List.length_nil];omega)) only [go_sem,hf,hle',e1]
  exact ⟨48::l,by simp;omega,by rw [padP_more hle,hpl],by simp;omega,rfl⟩
 ·have hle':¬ (l.length:Int)<5:=by omega
  rw [padP_done (by omega)] at hpl
  have hll:l.length=W.length+4:=by rw [hpl];simp [fourP_len]
  have e0:(l.length:Int)-4=W.length:=by omega
  have n0:((W.length:Nat):Int).toNat=W.length:=by omega
  have t0:l.take W.length=W:=by rw [hpl];simp
  have t1:l.drop W.length=fourP m:=by rw [hpl];simp
  have g3:(W.length:Int)<=l.length:=by omega
  have h4:=fourP_len m
  generalize fourP m=P at *
  simp (disch:=first|assumption|omega|(simp only [List.length_append,List.length_cons,List.length_nil];omega)) only [go_sem,hf,hle',e0,n0,t0,t1,g3,List.take_length]
  refine wp_loop_on (fun (x:List UInt8) a2 s3=>Lib.trimRightB x 48=Lib.trimRightB P 48/\x.length<=4/\(a2 0 = .int .i64 a/\a2 4 = .str W/\a2 5 = .str x)/\s3=s2) (fun x=>x.length) P ⟨rfl,by omega,?_,rfl⟩ ?_
  ·simp (disch:=first|assumption|omega|(simp only [List.length_append,List.length_cons,List.length_nil];omega)) only [go_sem,hf]
  rintro x a2 s3 ⟨hx,hxl,hf,rfl⟩
  obtain ⟨F,hF⟩:∃ F,F=ACode.wp Tryz.prog c101_31:=⟨_,rfl⟩
  have fin:∀ (a3:AFr),Lib.trimRightB P 48=x->(a3 0 = .int .i64 a/\a3 4 = .str W/\a3 5 = .str x)->F (RetQ [.t 2] fun v σ'=>v = .str ((if a<0 then [45] else [])++(W++if Lib.trimRightB P 48 = [] then [] else 46::Lib.trimRightB P 48))/\σ'=s3) a3 s3:=by
   intro a3 hP hf
   rw [hF,hP]
   by_cases hx0:x = []
   ·subst hx0
    rw [if_pos (show ([]:List UInt8) = [] from rfl),List.append_nil]
    by_cases hn:a<0
    ·rw [if_pos hn]
     have e1:binS .add [45] W=some (.str ([45]++W)):=binS_add (by simp;omega)
     simp (disch:=first|assumption|omega|(simp only [List.length_append,List.length_cons,List.length_nil];omega)) only [go_sem,hf,hn,e1]
     exact retC_by (by repeat' (first|exact Drop.refl _|with_reducible refine Drop.off ?_ (by assumption))) (.refl _) ⟨rfl,rfl⟩
    ·rw [if_neg hn]
     simp (disch:=first|assumption|omega|(simp only [List.length_append,List.length_cons,List.length_nil];omega)) only [go_sem,hf,hn]
     exact retC_by (by repeat' (first|exact Drop.refl _|with_reducible refine Drop.off ?_ (by assumption))) (.refl _) ⟨rfl,rfl⟩
   ·rw [if_neg hx0]
    have hpos:(0:Int)<x.length:=by
     have:=List.length_pos_iff.2 hx0
     omega
    have e2:binS .add [46] x=some (.str (46::x)):=binS_add (by simp;omega)
    have e3:binS .add W (46::x)=some (.str (W++46::x)):=binS_add (by simp;omega)
    by_cases hn:a<0
    ·rw [if_pos hn]
     have e1:binS .add [45] (W++46::x)=some (.str ([45]++(W++46::x))):=binS_add (by simp;omega)
     simp (disch:=first|assumption|omega|(simp only [List.length_append,List.length_cons,List.length_nil];omega)) only [go_sem,hf,hpos,hn,e2,e3,e1]
     exact retC_by (by repeat' (first|exact Drop.refl _|with_reducible refine Drop.off ?_ (by assumption))) (.refl _) ⟨rfl,rfl⟩
    ·rw [if_neg hn]
     simp (disch:=first|assumption|omega|(simp only [List.length_append,List.length_cons,List.length_nil];omega)) only [go_sem,hf,hpos,hn,e2,e3]
     exact retC_by (by repeat' (first|exact Drop.refl _|with_reducible refine Drop.off ?_ (by assumption))) (.refl _) ⟨rfl,rfl⟩
  rcases List.eq_nil_or_concat x with rfl|⟨y,c,rfl⟩
  ·simp (disch:=first|assumption|omega|(simp only [List.length_append,List.length_cons,List.length_nil];omega)) only [go_sem,hf,←hF]
   refine fin _ hx.symm ?_
   simp (disch:=first|assumption|omega|(simp only [List.length_append,List.length_cons,List.length_nil];omega)) only [go_sem,hf]
  ·rw [List.concat_eq_append] at *
   obtain ⟨x,hxe⟩:∃ x,x=y ++ [c]:=⟨_,rfl⟩
   have hlen:x.length=y.length+1:=by rw [hxe];simp
   have hidx:x[y.length]? = some c:=by rw [hxe];simp
   have htk:x.take y.length=y:=by rw [hxe];simp
   rw [<-hxe] at hx hxl hf fin ⊢
   have g5:(0:Int)<x.length:=by omega
   have g6:(x.length:Int)-1=y.length:=by omega
   have g7:(y.length:Int)<x.length:=by omega
   have g8:(y.length:Int)<=x.length:=by omega
   have n5:((y.length:Nat):Int).toNat=y.length:=by omega
   by_cases hc:c=48
   ·have hc':(c.toNat:Int)=48:=by rw [hc];rfl
    have hx2:Lib.trimRightB y 48=Lib.trimRightB P 48:=by rw [<-hx,hxe,hc,trim_snoc]
    simp (disch:=first|assumption|omega|(simp only [List.length_append,List.length_cons,List.length_nil];omega)) only [go_sem,hf,hidx,g5,g6,g7,g8,n5,htk,hc']
    exact ⟨y,by omega,hx2,by omega,rfl⟩
   ·have hc':¬ (c.toNat:Int)=48:=fun h=>hc (UInt8.toNat_inj.1 (by have e:(48:UInt8).toNat=48:=rfl;omega))
    simp (disch:=first|assumption|omega|(simp only [List.length_append,List.length_cons,List.length_nil];omega)) only [go_sem,hf,hidx,g5,g6,g7,g8,n5,hc',←hF]
    refine fin _ (by rw [<-hx,hxe,trim_stop hc]) ?_
    simp (disch:=first|assumption|omega|(simp only [List.length_append,List.length_cons,List.length_nil];omega)) only [go_sem,hf]
theorem roundP_le {a r:Int} {u:Nat} (h:roundP a u=some r):r.natAbs<=999999999999999999:=by
 unfold roundP madeP at h
 split at h
 ·injection h with h
  rw [<-h]
  split<;>omega
 ·cases h
end Go.A
namespace Go.A
open Go.Proofs Go.Lib
theorem decN0 {n b0 b1 b2 b3:Nat} (h1:¬ (1<n/\b1 / 64=2)):decodeN n b0 b1 b2 b3=if b0<128 then (b0,1) else (65533,1):=by
 unfold decodeN
 by_cases h0:b0<128
 ·rw [if_pos h0,if_pos h0]
 ·rw [if_neg h0,if_neg h0,if_neg (fun h=>h1 h.2),if_neg (fun h=>h1 h.2.1),if_neg (fun h=>h1 h.2.1)]
theorem decN1 {n b0 b1 b2 b3:Nat} (h1:1<n/\b1 / 64=2) (h2:¬ (2<n/\b2 / 64=2)):decodeN n b0 b1 b2 b3=if b0<128 then (b0,1) else if b0 / 32=6 then (if b0 % 32*64+b1 % 64 ≥ 128 then (b0 % 32*64+b1 % 64,2) else (65533,1)) else (65533,1):=by
 unfold decodeN
 by_cases h0:b0<128
 ·rw [if_pos h0,if_pos h0]
 rw [if_neg h0,if_neg h0]
 by_cases h6:b0 / 32=6
 ·rw [if_pos ⟨h6,h1⟩,if_pos h6]
 ·rw [if_neg (fun h=>h6 h.1),if_neg h6,if_neg (fun h=>h2 h.2.2),if_neg (fun h=>h2 h.2.2.1)]
theorem decN2 {n m b0 b1 b2 b3 b3':Nat} (h1:1<n/\b1 / 64=2) (h2:2<n/\b2 / 64=2) (h3:¬ (3<n/\b3 / 64=2)) (hm:2<m) (h3':¬ (3<m/\b3' / 64=2)):decodeN n b0 b1 b2 b3=decodeN m b0 b1 b2 b3':=by
 unfold decodeN
 have e1:(1<n/\b1 / 64=2)=(1<m/\b1 / 64=2):=propext ⟨fun h=>⟨by omega,h.2⟩,fun h=>h1⟩
 have e2:(2<n/\b2 / 64=2)=(2<m/\b2 / 64=2):=propext ⟨fun h=>⟨by omega,h.2⟩,fun h=>h2⟩
 simp only [e1,e2,h3,h3',and_false,if_false]
theorem decN4 {n m b0 b1 b2 b3:Nat} (hn:3<n) (hm:3<m):decodeN n b0 b1 b2 b3=decodeN m b0 b1 b2 b3:=by
 unfold decodeN
 have e1:(1<n)=(1<m):=propext ⟨fun _=>by omega,fun _=>by omega⟩
 have e2:(2<n)=(2<m):=propext ⟨fun _=>by omega,fun _=>by omega⟩
 have e3:(3<n)=(3<m):=propext ⟨fun _=>by omega,fun _=>by omega⟩
 simp only [e1,e2,e3]
def Stop (x:List UInt8):Prop:=∀ c y,x=c::y->c.toNat / 64≠2
theorem Stop.at {x:List UInt8} (h:Stop x) (m:Nat):¬ (m<m+x.length/\(x.getD 0 0).toNat / 64=2):=by
 rintro ⟨h1,h2⟩
 cases x with
 | nil=>simp at h1
 | cons c y=>exact h c y rfl h2
theorem decode_local {r x:List UInt8} (hr:r ≠ []) (hx:Stop x):decodeL (r++x)=decodeL r:=by
 rw [decodeL_N,decodeL_N]
 match r,hr with
 | [a],_=>
   have h1:=hx.at 1
   have e:([a]++x).length=1+x.length:=by simp;omega
   rw [e]
   refine (decN0 ?_).trans (decN0 ?_).symm
   ·exact h1
   ·simp
 | [a,b],_=>
   have h1:=hx.at 2
   have e:([a,b]++x).length=2+x.length:=by simp;omega
   rw [e]
   by_cases c1:b.toNat / 64=2
   ·refine (decN1 ⟨by omega,c1⟩ ?_).trans (decN1 ⟨by simp,c1⟩ ?_).symm
    ·exact h1
    ·simp
   ·refine (decN0 ?_).trans (decN0 ?_).symm
    ·exact fun h=>c1 h.2
    ·exact fun h=>c1 h.2
 | [a,b,c],_=>
   have h1:=hx.at 3
   have e:([a,b,c]++x).length=3+x.length:=by simp;omega
   rw [e]
   by_cases c1:b.toNat / 64=2
   ·by_cases c2:c.toNat / 64=2
    ·refine decN2 ⟨by omega,c1⟩ ⟨by omega,c2⟩ h1 (by simp) ?_
     simp
    ·refine (decN1 ⟨by omega,c1⟩ ?_).trans (decN1 ⟨by simp,c1⟩ ?_).symm
     ·exact fun h=>c2 h.2
     ·exact fun h=>c2 h.2
   ·refine (decN0 ?_).trans (decN0 ?_).symm
    ·exact fun h=>c1 h.2
    ·exact fun h=>c1 h.2
 | a::b::c::d::t,_=>exact decN4 (by simp) (by simp)
theorem decode_whole {r:List UInt8} {c w:Nat} (hr:r ≠ []) (hd:decodeL r=(c,w)) (hv:(c,w)≠(65533,1)) (t:List UInt8):decodeL (r.take w++t)=(c,w):=by
 have hpos:=List.length_pos_iff.2 hr
 rw [decodeL_N] at hd ⊢
 have k0:=(r.getD 0 0).toNat_lt
 have k1:=(r.getD 1 0).toNat_lt
 rcases decodeN_shape r.length (r.getD 0 0).toNat (r.getD 1 0).toNat (r.getD 2 0).toNat (r.getD 3 0).toNat with ⟨c1,e⟩|⟨c1,c2,c3,cv,e⟩|⟨c1,c2,c3,c4,cv,cs,e⟩|⟨c1,c2,c3,c4,c5,cv,cw,e⟩|e
 ·rw [e] at hd
  injection hd with h1 h2
  subst h1 h2
  rw [takeA r hpos]
  generalize r.getD 0 0=b0 at *
  have e0:(([b0]++t).getD 0 0)=b0:=rfl
  rw [e0]
  unfold decodeN
  rw [if_pos c1]
 ·rw [e] at hd
  injection hd with h1 h2
  subst h1 h2
  rw [takeB r c2]
  generalize r.getD 0 0=b0 at *
  generalize r.getD 1 0=b1 at *
  have e0:(([b0,b1]++t).getD 0 0)=b0:=rfl
  have e1:(([b0,b1]++t).getD 1 0)=b1:=rfl
  have el:1<([b0,b1]++t).length:=by simp
  rw [e0,e1]
  unfold decodeN
  rw [if_neg (by omega),if_pos ⟨c1,el,c3⟩,if_pos (by omega)]
 ·rw [e] at hd
  injection hd with h1 h2
  subst h1 h2
  rw [takeC r c2]
  generalize r.getD 0 0=b0 at *
  generalize r.getD 1 0=b1 at *
  generalize r.getD 2 0=b2 at *
  have e0:(([b0,b1,b2]++t).getD 0 0)=b0:=rfl
  have e1:(([b0,b1,b2]++t).getD 1 0)=b1:=rfl
  have e2:(([b0,b1,b2]++t).getD 2 0)=b2:=rfl
  have el:2<([b0,b1,b2]++t).length:=by simp
  rw [e0,e1,e2]
  unfold decodeN
  rw [if_neg (by omega),if_neg (by omega),if_pos ⟨c1,⟨by omega,c3⟩,el,c4⟩,if_pos (by omega)]
 ·rw [e] at hd
  injection hd with h1 h2
  subst h1 h2
  rw [takeD r c2]
  generalize r.getD 0 0=b0 at *
  generalize r.getD 1 0=b1 at *
  generalize r.getD 2 0=b2 at *
  generalize r.getD 3 0=b3 at *
  have e0:(([b0,b1,b2,b3]++t).getD 0 0)=b0:=rfl
  have e1:(([b0,b1,b2,b3]++t).getD 1 0)=b1:=rfl
  have e2:(([b0,b1,b2,b3]++t).getD 2 0)=b2:=rfl
  have e3:(([b0,b1,b2,b3]++t).getD 3 0)=b3:=rfl
  have el:3<([b0,b1,b2,b3]++t).length:=by simp
  rw [e0,e1,e2,e3]
  unfold decodeN
  rw [if_neg (by omega),if_neg (by omega),if_neg (by omega),if_pos ⟨c1,⟨by omega,c3⟩,⟨by omega,c4⟩,el,c5⟩,if_pos (by omega)]
 ·rw [e] at hd
  exact absurd hd.symm hv
end Go.A
namespace Go.A
open Go.Proofs Go.Lib
def pcsF:Nat->List UInt8->List (List UInt8)
 | 0,_ => []
 | k+1,r=>if r = [] then [] else r.take (decodeL r).2::pcsF k (r.drop (decodeL r).2)
def pcs (r:List UInt8):List (List UInt8):=pcsF r.length r
theorem pcsF_fuel:∀ (k m:Nat) (r:List UInt8),r.length<=k->r.length<=m->pcsF k r=pcsF m r
 | 0,m,r,h,_=>by
   have:r = []:=List.eq_nil_of_length_eq_zero (by omega)
   subst this
   cases m<;>simp [pcsF]
 | k+1,0,r,_,h=>by
   have:r = []:=List.eq_nil_of_length_eq_zero (by omega)
   subst this
   simp [pcsF]
 | k+1,m+1,r,h,h'=>by
   unfold pcsF
   by_cases hr:r = []
   ·rw [if_pos hr,if_pos hr]
   have hpos:=List.length_pos_iff.2 hr
   have hw:=decodeL_width r
   rw [if_neg hr,if_neg hr,pcsF_fuel k m _ (by rw [List.length_drop];omega) (by rw [List.length_drop];omega)]
theorem pcs_nil:pcs [] = []:=rfl
theorem pcs_step {r:List UInt8} (hr:r ≠ []):pcs r=r.take (decodeL r).2::pcs (r.drop (decodeL r).2):=by
 have hpos:=List.length_pos_iff.2 hr
 have hw:=decodeL_width r
 obtain ⟨k,hk⟩:∃ k,r.length=k+1:=⟨r.length-1,by omega⟩
 conv=>lhs;unfold pcs;rw [hk,pcsF]
 rw [if_neg hr]
 unfold pcs
 rw [pcsF_fuel k _ _ (by rw [List.length_drop];omega) (Nat.le_refl _)]
theorem pcs_ind {Q:List UInt8->Prop} (h0:Q []) (h1:∀ r,r ≠ []->Q (r.drop (decodeL r).2)->Q r):∀ r,Q r:=by
 have key:∀ (k:Nat) (r:List UInt8),r.length<=k->Q r:=by
  intro k
  induction k with
  | zero=>intro r hr;rw [List.eq_nil_of_length_eq_zero (Nat.le_zero.1 hr)];exact h0
  | succ k ih=>
    intro r hr
    by_cases hn:r = []
    ·rw [hn];exact h0
    ·have hpos:=List.length_pos_iff.2 hn
     have hw:=decodeL_width r
     exact h1 r hn (ih _ (by rw [List.length_drop];omega))
 exact fun r=>key r.length r (Nat.le_refl _)
theorem pcs_flat:∀ r,(pcs r).flatten=r:=pcs_ind rfl fun r hr ih=>by rw [pcs_step hr,List.flatten_cons,ih,List.take_append_drop]
theorem pcs_ne:∀ r,∀ p∈pcs r,p ≠ []:=pcs_ind (fun p hp=>by cases hp) fun r hr ih p hp=>by
 rw [pcs_step hr] at hp
 rcases List.mem_cons.1 hp with rfl|hp
 ·have hpos:=List.length_pos_iff.2 hr
  have hw:=decodeL_width r
  intro e
  have:=congrArg List.length e
  rw [List.length_take] at this
  simp only [List.length_nil] at this
  omega
 ·exact ih p hp
theorem pcs_len:∀ r,(pcs r).length<=r.length:=pcs_ind (Nat.le_refl _) fun r hr ih=>by
 have hpos:=List.length_pos_iff.2 hr
 have hw:=decodeL_width r
 rw [pcs_step hr,List.length_cons]
 rw [List.length_drop] at ih
 omega
def skipP (r:List UInt8) (n:Int):Nat:=((pcs r).take n.toNat).flatten.length
theorem skipP_le (r:List UInt8) (n:Int):skipP r n<=r.length:=by
 have h:=congrArg List.length (pcs_flat r)
 have e:=List.take_append_drop n.toNat (pcs r)
 rw [<-e,List.flatten_append,List.length_append] at h
 unfold skipP
 omega
theorem skip_take (r:List UInt8) (n:Int):r.take (skipP r n)=((pcs r).take n.toNat).flatten:=by
 have h:=pcs_flat r
 have e:=List.take_append_drop n.toNat (pcs r)
 rw [<-e,List.flatten_append] at h
 unfold skipP
 generalize ((pcs r).take n.toNat).flatten=A at *
 generalize ((pcs r).drop n.toNat).flatten=B at *
 rw [<-h]
 exact List.take_left
theorem skip_drop (r:List UInt8) (n:Int):r.drop (skipP r n)=((pcs r).drop n.toNat).flatten:=by
 have h:=pcs_flat r
 have e:=List.take_append_drop n.toNat (pcs r)
 rw [<-e,List.flatten_append] at h
 unfold skipP
 generalize ((pcs r).take n.toNat).flatten=A at *
 generalize ((pcs r).drop n.toNat).flatten=B at *
 rw [<-h]
 exact List.drop_left
theorem pcs_skip:∀ (r:List UInt8) (n:Nat),pcs ((pcs r).drop n).flatten=(pcs r).drop n:=pcs_ind (fun n=>by simp [pcs_nil]) fun r hr ih n=>by
 cases n with
 | zero=>rw [List.drop_zero,pcs_flat]
 | succ n=>rw [pcs_step hr,List.drop_succ_cons];exact ih n
def VP (p:List UInt8):Prop:=p ≠ []/\decodeL p≠(65533,1)/\(decodeL p).2=p.length
theorem VP.app {p:List UInt8} (h:VP p) (t:List UInt8):decodeL (p++t)=decodeL p:=by
 obtain ⟨h1,h2,h3⟩:=h
 have:=decode_whole h1 (show decodeL p=((decodeL p).1,(decodeL p).2) from rfl) h2 t
 rw [h3,List.take_of_length_le (Nat.le_refl _)] at this
 rw [this,← h3]
theorem VP.step {p:List UInt8} (h:VP p) (t:List UInt8):pcs (p++t)=p::pcs t:=by
 have hne:p++t ≠ []:=by simp [h.1]
 rw [pcs_step hne,h.app t,h.2.2,List.take_left,List.drop_left]
theorem pcs_app {P:List (List UInt8)} (h:∀ p∈P,VP p) (t:List UInt8):pcs (P.flatten++t)=P++pcs t:=by
 induction P with
 | nil=>rfl
 | cons p P ih=>
   rw [List.flatten_cons,List.append_assoc,(h p (by simp)).step,ih fun q hq=>h q (by simp [hq]),List.cons_append]
theorem pcs_of {P:List (List UInt8)} (h:∀ p∈P,VP p):pcs P.flatten=P:=by
 have:=pcs_app h []
 rwa [List.append_nil,pcs_nil,List.append_nil] at this
def Whole (r:List UInt8):Prop:=∀ p∈pcs r,VP p
theorem whole_nil:Whole []:=fun p hp=>by cases hp
theorem take_vp {r:List UInt8} (hr:r ≠ []) (hv:decodeL r≠(65533,1)):VP (r.take (decodeL r).2):=by
 have hpos:=List.length_pos_iff.2 hr
 have hw:=decodeL_width r
 have hle:=decodeL_le r hr
 have hd:=decode_whole hr (show decodeL r=((decodeL r).1,(decodeL r).2) from rfl) hv []
 rw [List.append_nil] at hd
 have hd:decodeL (r.take (decodeL r).2)=decodeL r:=hd
 refine ⟨fun e=>?_,by rw [hd];exact hv,by rw [hd,List.length_take];omega⟩
 have:=congrArg List.length e
 rw [List.length_take] at this
 simp only [List.length_nil] at this
 omega
theorem whole_step {r:List UInt8} (hr:r ≠ []):Whole r↔decodeL r≠(65533,1)/\Whole (r.drop (decodeL r).2):=by
 unfold Whole
 rw [pcs_step hr]
 constructor
 ·intro h
  refine ⟨fun e=>?_,fun p hp=>h p (by simp [hp])⟩
  have h1:=h _ (List.mem_cons_self ..)
  rw [e] at h1
  obtain ⟨c,t,rfl⟩:∃ c t,r=c::t:=by cases r with
   | nil=>exact absurd rfl hr
   | cons c t=>exact ⟨c,t,rfl⟩
  have e1:(c::t).take 1 = [c]:=rfl
  simp only [e1] at h1
  have:=h1.app t
  rw [show [c]++t=c::t from rfl,e] at this
  exact h1.2.1 this.symm
 ·rintro ⟨h1,h2⟩ p hp
  rcases List.mem_cons.1 hp with rfl|hp
  ·exact take_vp hr h1
  ·exact h2 p hp
end Go.A
namespace Go.A
open Go.Proofs
/-! 82: tabular/texts.skip -/
def c82_16:ACode := .seq (.ops [ oe 9 (.nxt (.t 8)),oq 10 (.ext 0 (.t 9))]) (.seq (.cond (.t 10) .skip (.exit 0)) (.block 1 (.seq (.ops [ oq 11 (.ext 1 (.t 9)),oq 6 (.mv (.t 11))]) (.seq (.seq (.ops [ oq 12 (.mv (.t 5)),oq 13 (.mv (.t 1)),oq 14 (.bin .geq (.t 12) (.t 13))]) (.cond (.t 14) (.seq (.ops [ oq 15 (.mv (.t 6)),oq 4 (.mv (.t 15))]) .ret) .skip)) (.ops [ oq 16 (.mv (.t 5)),oq 17 (.bin .add (.t 16) (.v (.int .i64 1))),oq 5 (.mv (.t 17))])))))
def c82_21:ACode := .seq (.ops [ oq 18 (.mv (.t 0)),oq 19 (.lenS (.t 18)),oq 4 (.mv (.t 19))]) .ret
def c82_24:ACode := .seq (.ops [ oq 4 (.mv (.v (.int .i64 0)))]) (.seq (.ops [ oq 5 (.mv (.v (.int .i64 0)))]) (.seq (.seq (.ops [ oq 7 (.mv (.t 0)),oe 8 (.rng (.t 7))]) (.block 0 (.loop c82_16))) c82_21))
@[go_sem] def c82_16_wp:=wp_of c82_16.eq_1
@[go_sem] def c82_21_wp:=wp_of c82_21.eq_1
@[go_sem] def c82_24_wp:=wp_of c82_24.eq_1
def c82:AFn:=⟨20,[.t 4],c82_24⟩
theorem c82_ok:compF Tryz.prog Tryz.f82=some c82:=by kernel_rfl
theorem a82 {args:List AV} {σ:ASt} {R:AV->ASt->Prop} (hl:args.length<=20) (h:c82_24.wp Tryz.prog (RetQ [.t 4] R) (init args) σ):ACalls Tryz.prog 82 args σ R:=acalls_of Tryz.func82 c82_ok hl h
/-! 83: tabular/texts.count -/
def c83_3:ACode := .seq (.ops [ oq 2 (.mv (.v (.int .i64 0)))]) (.seq (.ops [ oq 3 (.mv (.t 0)),oe 4 (.call 111 [(.t 3)]),oq 2 (.mv (.t 4))]) .ret)
@[go_sem] def c83_3_wp:=wp_of c83_3.eq_1
def c83:AFn:=⟨5,[.t 2],c83_3⟩
theorem c83_ok:compF Tryz.prog Tryz.f83=some c83:=by kernel_rfl
theorem a83 {args:List AV} {σ:ASt} {R:AV->ASt->Prop} (hl:args.length<=5) (h:c83_3.wp Tryz.prog (RetQ [.t 2] R) (init args) σ):ACalls Tryz.prog 83 args σ R:=acalls_of Tryz.func83 c83_ok hl h
end Go.A
namespace Go.A
open Go.Proofs Go.Lib
theorem range_at {s:List UInt8} {p:Nat} (hlt:p<s.length):s.drop p ≠ []/\Utf8.decode ⟨⟨s⟩⟩ p=decodeL (s.drop p)/\1<=(decodeL (s.drop p)).2/\p+(decodeL (s.drop p)).2<=s.length:=by
 have hne:s.drop p ≠ []:=by
  intro e
  have:=congrArg List.length e
  rw [List.length_drop] at this
  simp at this
  omega
 have hw:=decodeL_width (s.drop p)
 have hwle:=decodeL_le (s.drop p) hne
 rw [List.length_drop] at hwle
 exact ⟨hne,(decodeL_drop ⟨⟨s⟩⟩ p).symm,hw,by omega⟩
theorem signsN_pcs:∀ r,signsN r=(pcs r).length:=by
 have key:∀ (l:List UInt8) (k pos:Nat),l.length<=pos+k->runeCountFrom ⟨⟨l⟩⟩ k pos=(pcs (l.drop pos)).length:=by
  intro l k
  induction k with
  | zero=>
    intro pos h
    rw [List.drop_eq_nil_of_le (by omega)]
    rfl
  | succ k ih=>
    intro pos h
    unfold runeCountFrom
    have e:(⟨⟨l⟩⟩:ByteArray).size=l.length:=rfl
    rw [e]
    by_cases hlt:pos<l.length
    ·obtain ⟨h1,h2,h3,h4⟩:=range_at hlt
     rw [if_pos hlt,h2,ih _ (by omega),pcs_step h1,List.drop_drop,List.length_cons]
     omega
    ·rw [if_neg hlt,List.drop_eq_nil_of_le (by omega)]
     rfl
 intro r
 unfold signsN runeCount
 have e:(⟨⟨r⟩⟩:ByteArray).size=r.length:=rfl
 rw [e,key r _ _ (by omega),List.drop_zero]
theorem xcount_ok (s:List UInt8) (hs:s.length<9223372036854775807):Pure Tryz.prog 83 [.str s] (.int .i64 (pcs s).length):=by
 intro σ
 have hc:=count_ok s hs
 rw [signsN_pcs] at hc
 refine a83 (by simp) ?_
 simp (disch:=first|assumption|omega|(simp only [List.length_append,List.length_cons,List.length_nil];omega)) only [go_sem]
 refine hc.use ?_
 simp (disch:=first|assumption|omega|(simp only [List.length_append,List.length_cons,List.length_nil];omega)) only [go_sem]
 exact retC_by (.refl _) (.refl _) ⟨rfl,rfl⟩
theorem skipP_at {s:List UInt8} {p k:Nat} (h:p=((pcs s).take k).flatten.length):s.drop p=((pcs s).drop k).flatten:=by
 have:=skip_drop s (k:Int)
 unfold skipP at this
 rw [Int.toNat_natCast] at this
 rw [h,this]
theorem take_more {s:List UInt8} {p k:Nat} (h:p=((pcs s).take k).flatten.length) (hlt:p<s.length) :
  k<(pcs s).length/\p+(decodeL (s.drop p)).2=((pcs s).take (k+1)).flatten.length:=by
 obtain ⟨h1,h2,h3,h4⟩:=range_at hlt
 have hd:=skipP_at h
 have hp:=pcs_skip s k
 rw [<-hd,pcs_step h1] at hp
 have hk:k<(pcs s).length:=by
  rcases Nat.lt_or_ge k (pcs s).length with h|h
  ·exact h
  ·rw [List.drop_eq_nil_of_le h] at hp;cases hp
 refine ⟨hk,?_⟩
 rw [List.drop_eq_getElem_cons hk] at hp
 injection hp with hp1 hp2
 rw [List.take_succ_eq_append_getElem hk,List.flatten_append,List.length_append,← h,← hp1]
 simp only [List.flatten_cons,List.flatten_nil,List.append_nil,List.length_take,List.length_drop]
 omega
theorem xskip_ok (s:List UInt8) (n:Int) (hs:s.length<4611686018427387904):Pure Tryz.prog 82 [.str s,.int .i64 n] (.int .i64 (skipP s n)):=by
 intro σ
 obtain ⟨R,hR⟩:∃ R,skipP s n=R:=⟨_,rfl⟩
 rw [hR]
 refine a82 (by simp) ?_
 obtain ⟨F,hF⟩:∃ F,F=ACode.wp Tryz.prog c82_21:=⟨_,rfl⟩
 simp (disch:=first|assumption|omega|(simp only [List.length_append,List.length_cons,List.length_nil];omega)) only [go_sem,←hF]
 refine rngC_by fun b hb=>?_
 simp (disch:=first|assumption|omega|(simp only [List.length_append,List.length_cons,List.length_nil];omega)) only [go_sem,←hF]
 refine wp_loop_by (fun (pk:Nat×Nat) a σ'=>pk.1<=s.length/\pk.2<=pk.1/\pk.1=((pcs s).take pk.2).flatten.length/\((pk.2:Int)<=n\/pk.2=0)/\(a 0 = .str s/\a 1 = .int .i64 n/\a 5 = .int .i64 pk.2/\a 8 = .ptr b 0)/\σ'=σ.set b (some (.iter s pk.1))) (fun pk=>s.length-pk.1) (0,0) (Dr.now ⟨Nat.zero_le _,Nat.le_refl _,rfl,.inr rfl,?_,rfl⟩) ?_
 ·simp (disch:=first|assumption|omega|(simp only [List.length_append,List.length_cons,List.length_nil];omega)) only [go_sem]
 rintro ⟨p,k⟩ a σ1 ⟨hp,hk,hpk,hkn,hf,rfl⟩
 dsimp only at hp hk hpk hkn hf ⊢
 by_cases hlt:p<s.length
 ·obtain ⟨h1,h2,h3,h4⟩:=range_at hlt
  obtain ⟨h5,h6⟩:=take_more hpk hlt
  generalize decodeL (s.drop p)=D at *
  obtain ⟨r,w⟩:=D
  dsimp only at h3 h4 h6
  simp (disch:=first|assumption|omega|(simp only [List.length_append,List.length_cons,List.length_nil];omega)) only [go_sem,hf,←hF]
  refine nxt_more hlt ?_
  rw [h2]
  by_cases hn:n<=k
  ·simp (disch:=first|assumption|omega|(simp only [List.length_append,List.length_cons,List.length_nil];omega)) only [go_sem,hf,hn,←hF]
   have e:R=p:=by
    rw [<-hR,hpk]
    unfold skipP
    rcases hkn with h|h
    ·rw [show n.toNat=k by omega]
    ·rw [show n.toNat=k by omega]
   rw [e]
   exact retC_by (by repeat' (first|exact Drop.refl _|with_reducible refine Drop.off ?_ (by assumption))) (.refl _) ⟨rfl,rfl⟩
  ·simp (disch:=first|assumption|omega|(simp only [List.length_append,List.length_cons,List.length_nil];omega)) only [go_sem,hf,hn,←hF]
   refine ⟨(p+w,k+1),by dsimp only;omega,Dr.now ⟨h4,by dsimp only;omega,h6,.inl (by dsimp only;omega),?_,?_⟩⟩
   ·simp (disch:=first|assumption|omega|(simp only [List.length_append,List.length_cons,List.length_nil];omega)) only [go_sem,hf]
   ·simp only [ASt.set_set]
 ·simp (disch:=first|assumption|omega|(simp only [List.length_append,List.length_cons,List.length_nil];omega)) only [go_sem,hf,←hF]
  refine nxt_over (by omega) ?_
  simp (disch:=first|assumption|omega|(simp only [List.length_append,List.length_cons,List.length_nil];omega)) only [go_sem,hf,←hF]
  rw [hF]
  have e:R=s.length:=by
   have h7:=skipP_at hpk
   rw [List.drop_eq_nil_of_le (by omega)] at h7
   have h8:=pcs_skip s k
   rw [<-h7,pcs_nil] at h8
   have h9:(pcs s).length<=k:=by
    have:=congrArg List.length h8
    rw [List.length_drop] at this
    simp only [List.length_nil] at this
    omega
   rw [<-hR]
   unfold skipP
   rw [List.take_of_length_le (by rcases hkn with h|h<;>omega),pcs_flat]
  rw [e]
  simp (disch:=first|assumption|omega|(simp only [List.length_append,List.length_cons,List.length_nil];omega)) only [go_sem,hf]
  exact retC_by (by repeat' (first|exact Drop.refl _|with_reducible refine Drop.off ?_ (by assumption))) (.refl _) ⟨rfl,rfl⟩
end Go.A
namespace Go.A
open Go.Proofs
/-! 54: tabular/texts.sides -/
def c54_15:ACode := .seq (.ops [ oq 6 (.mv (.v .nili))]) (.seq (.seq (.ops [ oq 7 (.mv (.t 2)),oq 8 (.bin .lss (.t 7) (.v (.int .i64 0)))]) (.cond (.t 8) (.seq (.ops [ oq 9 (.mki 46 (.v (.int .i64 3))),oq 6 (.mv (.t 9))]) .ret) .skip)) (.seq (.seq (.ops [ oq 10 (.mv (.t 0)),oq 11 (.bin .eql (.t 10) (.v (.str [76,69,70,84])))]) (.cond (.t 11) (.seq (.ops [ oq 12 (.mv (.t 1)),oq 13 (.mv (.t 2)),oe 14 (.call 55 [(.t 12),(.v (.int .i64 0)),(.t 13)]),oq 15 (.mki 89 (.t 14)),oq 6 (.mv (.t 15))]) .ret) .skip)) (.seq (.ops [ oq 16 (.mv (.t 1)),oq 17 (.mv (.t 1)),oq 18 (.mv (.t 1)),oe 19 (.call 83 [(.t 18)]),oq 20 (.mv (.t 2)),oq 21 (.bin .sub (.t 19) (.t 20)),oq 22 (.mnx true (.t 21) (.v (.int .i64 0))),oe 23 (.call 82 [(.t 17),(.t 22)]),oq 24 (.slfrom (true,0) (.t 16) (.t 23)),oq 25 (.mki 89 (.t 24)),oq 6 (.mv (.t 25))]) .ret)))
@[go_sem] def c54_15_wp:=wp_of c54_15.eq_1
def c54:AFn:=⟨26,[.t 6],c54_15⟩
theorem c54_ok:compF Tryz.prog Tryz.f54=some c54:=by kernel_rfl
theorem a54 {args:List AV} {σ:ASt} {R:AV->ASt->Prop} (hl:args.length<=26) (h:c54_15.wp Tryz.prog (RetQ [.t 6] R) (init args) σ):ACalls Tryz.prog 54 args σ R:=acalls_of Tryz.func54 c54_ok hl h
/-! 55: tabular/texts.part -/
def c55_5:ACode := .seq (.ops [ oq 6 (.mv (.v (.str [])))]) (.seq (.ops [ oq 7 (.mv (.t 0)),oq 8 (.mv (.t 0)),oq 9 (.mv (.t 1)),oe 10 (.call 82 [(.t 8),(.t 9)]),oq 11 (.slfrom (true,0) (.t 7) (.t 10)),oq 0 (.mv (.t 11))]) (.seq (.ops [ oq 12 (.mv (.t 0)),oq 13 (.mv (.t 0)),oq 14 (.mv (.t 2)),oe 15 (.call 82 [(.t 13),(.t 14)]),oq 16 (.slto (true,0) (.t 12) (.t 15)),oq 6 (.mv (.t 16))]) .ret))
@[go_sem] def c55_5_wp:=wp_of c55_5.eq_1
def c55:AFn:=⟨17,[.t 6],c55_5⟩
theorem c55_ok:compF Tryz.prog Tryz.f55=some c55:=by kernel_rfl
theorem a55 {args:List AV} {σ:ASt} {R:AV->ASt->Prop} (hl:args.length<=17) (h:c55_5.wp Tryz.prog (RetQ [.t 6] R) (init args) σ):ACalls Tryz.prog 55 args σ R:=acalls_of Tryz.func55 c55_ok hl h
/-! 92: tabular/texts.lower -/
def c92_15:ACode := .seq (.ops [ oq 11 (.bin .lss (.t 10) (.t 9))]) (.seq (.cond (.t 11) .skip (.exit 0)) (.seq (.block 1 (.seq (.ops [ oq 12 (.mv (.t 10)),oq 13 (.ia 1 (.t 8) (.t 10)),oq 14 (.ld none (.t 13)),oq 4 (.mv (.t 12)),oq 5 (.mv (.t 14))]) (.seq (.ops [ oq 15 (.mv (.t 5)),oq 16 (.bin .geq (.t 15) (.v (.int .u8 65))),oq 17 (.mv (.t 16)),⟨some 18,some (17,true),.q (.mv (.t 5)),[]⟩,⟨some 19,some (17,true),.q (.bin .leq (.t 18) (.v (.int .u8 90))),[]⟩,oq 20 (.pick (.t 17) (.t 19) (.v (.bool false)))]) (.cond (.t 20) (.ops [ oq 21 (.mv (.t 3)),oq 22 (.mv (.t 4)),oq 23 (.mv (.t 5)),oq 24 (.bin .add (.t 23) (.v (.int .u8 32))),oq 25 (.ia 1 (.t 21) (.t 22)),oz (.store 1 (.t 25) (.t 24))]) .skip)))) (.ops [ oq 26 (.bin .add (.t 10) (.v (.int .i64 1))),oq 10 (.mv (.t 26))])))
def c92_23:ACode := .seq (.ops [ oq 2 (.mv (.v (.str [])))]) (.seq (.ops [ oq 6 (.mv (.t 0)),oe 7 (.s2b (.t 6)),oq 3 (.mv (.t 7))]) (.seq (.seq (.ops [ oq 8 (.mv (.t 3)),oq 9 (.len (.t 8)),oq 10 (.mv (.v (.int .i64 0)))]) (.block 0 (.loop c92_15))) (.seq (.ops [ oq 27 (.mv (.t 3)),oq 28 (.b2s (.t 27)),oq 2 (.mv (.t 28))]) .ret)))
@[go_sem] def c92_15_wp:=wp_of c92_15.eq_1
@[go_sem] def c92_23_wp:=wp_of c92_23.eq_1
def c92:AFn:=⟨29,[.t 2],c92_23⟩
theorem c92_ok:compF Tryz.prog Tryz.f92=some c92:=by kernel_rfl
theorem a92 {args:List AV} {σ:ASt} {R:AV->ASt->Prop} (hl:args.length<=29) (h:c92_23.wp Tryz.prog (RetQ [.t 2] R) (init args) σ):ACalls Tryz.prog 92 args σ R:=acalls_of Tryz.func92 c92_ok hl h
/-! 119: tabular/texts.letter -/
def c119_3:ACode := .seq (.ops [ oq 2 (.mv (.v (.bool false)))]) (.seq (.ops [ oq 3 (.mv (.t 0)),oq 4 (.bin .geq (.t 3) (.v (.int .i32 65))),oq 5 (.mv (.t 4)),⟨some 6,some (5,true),.q (.mv (.t 0)),[]⟩,⟨some 7,some (5,true),.q (.bin .leq (.t 6) (.v (.int .i32 90))),[]⟩,oq 8 (.pick (.t 5) (.t 7) (.v (.bool false))),oq 9 (.mv (.t 8)),⟨some 10,some (9,false),.q (.mv (.t 0)),[]⟩,⟨some 11,some (9,false),.q (.bin .geq (.t 10) (.v (.int .i32 97))),[]⟩,⟨some 12,some (9,false),.q (.mv (.t 11)),[]⟩,⟨some 13,some (12,true),.q (.mv (.t 0)),[]⟩,⟨some 14,some (12,true),.q (.bin .leq (.t 13) (.v (.int .i32 122))),[]⟩,⟨some 15,some (9,false),.q (.pick (.t 12) (.t 14) (.v (.bool false))),[]⟩,oq 16 (.pick (.t 9) (.v (.bool true)) (.t 15)),oq 2 (.mv (.t 16))]) .ret)
@[go_sem] def c119_3_wp:=wp_of c119_3.eq_1
def c119:AFn:=⟨17,[.t 2],c119_3⟩
theorem c119_ok:compF Tryz.prog Tryz.f119=some c119:=by kernel_rfl
theorem a119 {args:List AV} {σ:ASt} {R:AV->ASt->Prop} (hl:args.length<=17) (h:c119_3.wp Tryz.prog (RetQ [.t 2] R) (init args) σ):ACalls Tryz.prog 119 args σ R:=acalls_of Tryz.func119 c119_ok hl h
end Go.A
namespace Go.A
open Go.Proofs Go.Lib
def smallC (c:UInt8):UInt8:=if 65<=c.toNat/\c.toNat<=90 then UInt8.ofNat (c.toNat+32) else c
def smallP (l:List UInt8):List UInt8:=l.map smallC
theorem smallP_len (l:List UInt8):(smallP l).length=l.length:=by simp [smallP]
theorem xlower_ok (l:List UInt8) (hl:l.length<4611686018427387904):Pure Tryz.prog 92 [.str l] (.str (smallP l)):=by
 intro σ
 refine a92 (by simp) ?_
 simp (disch:=first|assumption|omega|(simp only [List.length_append,List.length_cons,List.length_nil];omega)) only [go_sem]
 refine s2b_own fun b cp hb hcp=>?_
 simp (disch:=first|assumption|omega|(simp only [List.length_append,List.length_cons,List.length_nil];omega)) only [go_sem]
 refine wp_loop_on (fun (i:Nat) a σ'=>i<=l.length/\(a 3 = .msl b 0 l.length cp/\a 8 = .msl b 0 l.length cp/\a 9 = .int .i64 l.length/\a 10 = .int .i64 i)/\σ'=σ.set b (some (.obj (bytesAV (smallP (l.take i)++l.drop i)))))
  (fun i=>l.length-i) 0 ⟨Nat.zero_le _,?_,by simp [smallP]⟩ ?_
 ·simp (disch:=first|assumption|omega|(simp only [List.length_append,List.length_cons,List.length_nil];omega)) only [go_sem]
 rintro i a σ1 ⟨hi,hf,rfl⟩
 obtain ⟨m,hm⟩:∃ m,smallP (l.take i)++l.drop i=m:=⟨_,rfl⟩
 have hml:m.length=l.length:=by rw [<-hm];simp [smallP];omega
 have hgl:(smallP (l.take i)).length=i:=by simp [smallP];omega
 rw [hm]
 by_cases hlt:i<l.length
 ·have hidx : m[i]? = some (l[i]'hlt) := by rw [← hm, List.getElem?_append_right (by omega), hgl]; simp
  obtain ⟨c, hc⟩ : ∃ c, l[i]'hlt = c := ⟨_, rfl⟩
  rw [hc] at hidx
  have hcb:=u8_lt c
  have hi2:(i:Int)<l.length:=by omega
  have hle:i+1<=m.length:=by omega
  have hnext:smallP (l.take (i+1))++l.drop (i+1)=m.set i (smallC c):=by
   rw [<-hm,List.take_succ_eq_append_getElem hlt,hc,List.set_append_right _ _ (by omega),hgl,Nat.sub_self]
   simp only [smallP,List.map_append,List.map_cons,List.map_nil,List.append_assoc,List.singleton_append]
   rw [List.drop_eq_getElem_cons hlt]
   rfl
  by_cases hg:65<=c.toNat/\c.toNat<=90
  ·have g1:(65:Int)<=c.toNat:=by omega
   have g2:(c.toNat:Int)<=90:=by omega
   have hgc:smallC c=UInt8.ofNat (c.toNat+32):=by unfold smallC;rw [if_pos hg]
   have hw:=set_bytes (l:=m) (i:=i) (m:=(c.toNat:Int)+32) (by omega)
   have hw0:(c.toNat:Int)+32=((UInt8.ofNat (c.toNat+32)).toNat:Int):=by rw [u8_nat (by omega)];omega
   rw [hw0,bytes_set] at hw
   simp (disch:=first|assumption|omega|(simp only [List.length_append,List.length_cons,List.length_nil];omega)) only [go_sem,hf,hi2,hidx,g1,g2,hle,hw0,hw]
   refine ⟨i+1,by omega,by omega,?_,by rw [hnext,hgc]⟩
   simp (disch:=first|assumption|omega|(simp only [List.length_append,List.length_cons,List.length_nil];omega)) only [go_sem,hf]
  ·have hgc:smallC c=c:=by unfold smallC;rw [if_neg hg]
   have hms:m.set i c=m:=by
    apply List.ext_getElem?
    intro j
    rw [List.getElem?_set]
    split
    ·rename_i h;subst h;rw [hidx];split<;>first|rfl|omega
    ·rfl
   by_cases g1:(65:Int)<=c.toNat
   ·have g2:¬ (c.toNat:Int)<=90:=by omega
    simp (disch:=first|assumption|omega|(simp only [List.length_append,List.length_cons,List.length_nil];omega)) only [go_sem,hf,hi2,hidx,g1,g2]
    refine ⟨i+1,by omega,by omega,?_,by rw [hnext,hgc,hms]⟩
    simp (disch:=first|assumption|omega|(simp only [List.length_append,List.length_cons,List.length_nil];omega)) only [go_sem,hf]
   ·simp (disch:=first|assumption|omega|(simp only [List.length_append,List.length_cons,List.length_nil];omega)) only [go_sem,hf,hi2,hidx,g1]
    refine ⟨i+1,by omega,by omega,?_,by rw [hnext,hgc,hms]⟩
    simp (disch:=first|assumption|omega|(simp only [List.length_append,List.length_cons,List.length_nil];omega)) only [go_sem,hf]
 ·have e:smallP (l.take i)++l.drop i=smallP l:=by rw [List.take_of_length_le (by omega),List.drop_of_length_le (by omega),List.append_nil]
  have hi2:¬ (i:Int)<l.length:=by omega
  rw [e] at hm
  subst hm
  have hb2:bytesOf ((bytesAV (smallP l)).take l.length)=some (smallP l):=by
   rw [List.take_of_length_le (by simp [bytesAV,smallP])]
   exact bytesOf_bytesAV _
  simp (disch:=first|assumption|omega|(simp only [List.length_append,List.length_cons,List.length_nil];omega)) only [go_sem,hf,hi2,hml,hb2,Nat.le_refl]
  exact retC_by (Drop.set hb) (.refl _) ⟨rfl,rfl⟩
def letterB (c:Int):Bool:=decide ((65<=c/\c<=90)\/(97<=c/\c<=122))
theorem xletter_ok (c:Int):Pure Tryz.prog 119 [.int .i32 c] (.bool (letterB c)):=by
 intro σ
 obtain ⟨R,hR⟩:∃ R,letterB c=R:=⟨_,rfl⟩
 rw [hR]
 unfold letterB at hR
 refine a119 (by simp) ?_
 by_cases h1:65<=c
 ·by_cases h2:c<=90
  ·rw [decide_eq_true (by omega)] at hR
   subst hR
   simp (disch:=first|assumption|omega|(simp only [List.length_append,List.length_cons,List.length_nil];omega)) only [go_sem,h1,h2]
   exact retC_by (.refl _) (.refl _) ⟨rfl,rfl⟩
  ·by_cases h3:97<=c
   ·by_cases h4:c<=122
    ·rw [decide_eq_true (by omega)] at hR
     subst hR
     simp (disch:=first|assumption|omega|(simp only [List.length_append,List.length_cons,List.length_nil];omega)) only [go_sem,h1,h2,h3,h4]
     exact retC_by (.refl _) (.refl _) ⟨rfl,rfl⟩
    ·rw [decide_eq_false (by omega)] at hR
     subst hR
     simp (disch:=first|assumption|omega|(simp only [List.length_append,List.length_cons,List.length_nil];omega)) only [go_sem,h1,h2,h3,h4]
     exact retC_by (.refl _) (.refl _) ⟨rfl,rfl⟩
   ·rw [decide_eq_false (by omega)] at hR
    subst hR
    simp (disch:=first|assumption|omega|(simp only [List.length_append,List.length_cons,List.length_nil];omega)) only [go_sem,h1,h2,h3]
    exact retC_by (.refl _) (.refl _) ⟨rfl,rfl⟩
 ·have h3:¬ 97<=c:=by omega
  rw [decide_eq_false (by omega)] at hR
  subst hR
  simp (disch:=first|assumption|omega|(simp only [List.length_append,List.length_cons,List.length_nil];omega)) only [go_sem,h1,h3]
  exact retC_by (.refl _) (.refl _) ⟨rfl,rfl⟩
def partP (s:List UInt8) (f n:Int):List UInt8:=((s.drop (skipP s f)).take (skipP (s.drop (skipP s f)) n))
theorem xpart_ok (s:List UInt8) (f n:Int) (hs:s.length<4611686018427387904):Pure Tryz.prog 55 [.str s,.int .i64 f,.int .i64 n] (.str (partP s f n)):=by
 intro σ
 have h1:=xskip_ok s f hs
 have h2:=xskip_ok (s.drop (skipP s f)) n (by rw [List.length_drop];omega)
 have k1:=skipP_le s f
 have k2:=skipP_le (s.drop (skipP s f)) n
 unfold partP
 generalize skipP (s.drop (skipP s f)) n=B at *
 generalize skipP s f=A at *
 have k3:(B:Int)<=((List.drop A s).length:Int):=by omega
 refine a55 (by simp) ?_
 simp (disch:=first|assumption|omega|(simp only [List.length_append,List.length_cons,List.length_nil];omega)) only [go_sem]
 refine h1.use ?_
 simp (disch:=first|assumption|omega|(simp only [List.length_append,List.length_cons,List.length_nil];omega)) only [go_sem,List.length_drop,List.take_length]
 refine h2.use ?_
 simp (disch:=first|assumption|omega|(simp only [List.length_append,List.length_cons,List.length_nil];omega)) only [go_sem,List.length_drop,List.take_length]
 exact retC_by (.refl _) (.refl _) ⟨rfl,rfl⟩
def sidesP (name s:List UInt8) (n:Int):PV:=
 if n<0 then .fail 3 else if name = [76,69,70,84] then .text (partP s 0 n) else .text (s.drop (skipP s (max ((pcs s).length-n) 0)))
theorem xsides_ok (name s:List UInt8) (n:Int) (hn:n<=9000000000000000000) (hs:s.length<4611686018427387904):Pure Tryz.prog 54 [.str name,.str s,.int .i64 n] (sidesP name s n).av:=by
 intro σ
 have h1:=xpart_ok s 0 n hs
 have h2:=xcount_ok s (by omega)
 have hl:=pcs_len s
 have h3:=xskip_ok s (max ((pcs s).length-n) 0) hs
 have k3:=skipP_le s (max ((pcs s).length-n) 0)
 obtain ⟨R,hR⟩:∃ R,sidesP name s n=R:=⟨_,rfl⟩
 rw [hR]
 unfold sidesP at hR
 generalize skipP s (max ((pcs s).length-n) 0)=B at *
 generalize partP s 0 n=W at *
 generalize (pcs s).length=M at *
 refine a54 (by simp) ?_
 by_cases c1:n<0
 ·rw [if_pos c1] at hR
  subst hR
  simp only [PV.av]
  simp (disch:=first|assumption|omega|(simp only [List.length_append,List.length_cons,List.length_nil];omega)) only [go_sem,c1]
  exact retC_by (.refl _) (.refl _) ⟨rfl,rfl⟩
 ·rw [if_neg c1] at hR
  by_cases c2:name = [76,69,70,84]
  ·rw [if_pos c2] at hR
   subst hR c2
   simp only [PV.av]
   simp (disch:=first|assumption|omega|(simp only [List.length_append,List.length_cons,List.length_nil];omega)) only [go_sem,c1]
   refine h1.use ?_
   simp (disch:=first|assumption|omega|(simp only [List.length_append,List.length_cons,List.length_nil];omega)) only [go_sem]
   exact retC_by (.refl _) (.refl _) ⟨rfl,rfl⟩
  ·rw [if_neg c2] at hR
   subst hR
   simp only [PV.av]
   simp (disch:=first|assumption|omega|(simp only [List.length_append,List.length_cons,List.length_nil];omega)) only [go_sem,c1,c2]
   refine h2.use ?_
   simp (disch:=first|assumption|omega|(simp only [List.length_append,List.length_cons,List.length_nil];omega)) only [go_sem]
   refine h3.use ?_
   simp (disch:=first|assumption|omega|(simp only [List.length_append,List.length_cons,List.length_nil];omega)) only [go_sem,List.take_length]
   exact retC_by (.refl _) (.refl _) ⟨rfl,rfl⟩
end Go.A
namespace Go.A
open Go.Proofs
/-! 61: tabular/texts.replace -/
def c61_13:ACode := .seq (.ops [ oq 8 (.mv (.v .nili))]) (.seq (.seq (.ops [ oq 11 (.mv (.t 1)),oq 12 (.bin .lss (.t 11) (.v (.int .i64 1))),oq 13 (.mv (.t 12)),⟨some 14,some (13,false),.q (.mv (.t 2)),[]⟩,⟨some 15,some (13,false),.q (.bin .lss (.t 14) (.v (.int .i64 0))),[]⟩,oq 16 (.pick (.t 13) (.v (.bool true)) (.t 15))]) (.cond (.t 16) (.seq (.ops [ oq 17 (.mki 46 (.v (.int .i64 3))),oq 8 (.mv (.t 17))]) .ret) .skip)) (.seq (.ops [ oq 18 (.mv (.t 0)),oq 19 (.mv (.t 1)),oq 20 (.bin .sub (.t 19) (.v (.int .i64 1))),oe 21 (.call 82 [(.t 18),(.t 20)]),oq 9 (.mv (.t 21))]) (.seq (.ops [ oq 22 (.mv (.t 0)),oq 23 (.mv (.t 9)),oq 24 (.slfrom (true,0) (.t 22) (.t 23)),oq 10 (.mv (.t 24))]) (.seq (.ops [ oq 25 (.mv (.t 0)),oq 26 (.mv (.t 9)),oq 27 (.slto (true,0) (.t 25) (.t 26)),oq 28 (.mv (.t 3)),oq 29 (.bin .add (.t 27) (.t 28)),oq 30 (.mv (.t 10)),oq 31 (.mv (.t 10)),oq 32 (.mv (.t 2)),oe 33 (.call 82 [(.t 31),(.t 32)]),oq 34 (.slfrom (true,0) (.t 30) (.t 33)),oq 35 (.bin .add (.t 29) (.t 34)),oe 36 (.call 77 [(.t 35)]),oq 8 (.mv (.t 36))]) .ret))))
@[go_sem] def c61_13_wp:=wp_of c61_13.eq_1
def c61:AFn:=⟨37,[.t 8],c61_13⟩
theorem c61_ok:compF Tryz.prog Tryz.f61=some c61:=by kernel_rfl
theorem a61 {args:List AV} {σ:ASt} {R:AV->ASt->Prop} (hl:args.length<=37) (h:c61_13.wp Tryz.prog (RetQ [.t 8] R) (init args) σ):ACalls Tryz.prog 61 args σ R:=acalls_of Tryz.func61 c61_ok hl h
/-! 76: tabular/value.AsInt -/
def c76_5:ACode := .seq (.ops [ oq 2 (.mv (.v (.int .i64 0))),oq 3 (.mv (.v (.int .i64 0)))]) (.seq (.ops [ oq 7 (.mv (.t 0)),oe 8 (.call 50 [(.t 7)]),oq 6 (.mv (.t 8)),oq 9 (.ext 0 (.t 6)),oq 10 (.ext 1 (.t 6)),oq 4 (.mv (.t 9)),oq 5 (.mv (.t 10))]) (.seq (.ops [ oq 11 (.mv (.t 4)),oe 12 (.call 106 [(.t 11)]),oq 13 (.mv (.t 5)),oq 2 (.mv (.t 12)),oq 3 (.mv (.t 13))]) .ret))
@[go_sem] def c76_5_wp:=wp_of c76_5.eq_1
def c76:AFn:=⟨14,[.t 2,.t 3],c76_5⟩
theorem c76_ok:compF Tryz.prog Tryz.f76=some c76:=by kernel_rfl
theorem a76 {args:List AV} {σ:ASt} {R:AV->ASt->Prop} (hl:args.length<=14) (h:c76_5.wp Tryz.prog (RetQ [.t 2,.t 3] R) (init args) σ):ACalls Tryz.prog 76 args σ R:=acalls_of Tryz.func76 c76_ok hl h
/-! 77: tabular/value.Made -/
def c77_9:ACode := .seq (.ops [ oq 2 (.mv (.v .nili))]) (.seq (.seq (.ops [ oq 3 (.mv (.t 0)),oq 4 (.lenS (.t 3)),oq 5 (.bin .gtr (.t 4) (.v (.int .i64 2000)))]) (.cond (.t 5) (.seq (.ops [ oq 6 (.mki 46 (.v (.int .i64 3))),oq 2 (.mv (.t 6))]) .ret) .skip)) (.seq (.ops [ oq 7 (.mv (.t 0)),oq 8 (.mki 89 (.t 7)),oq 2 (.mv (.t 8))]) .ret))
@[go_sem] def c77_9_wp:=wp_of c77_9.eq_1
def c77:AFn:=⟨9,[.t 2],c77_9⟩
theorem c77_ok:compF Tryz.prog Tryz.f77=some c77:=by kernel_rfl
theorem a77 {args:List AV} {σ:ASt} {R:AV->ASt->Prop} (hl:args.length<=9) (h:c77_9.wp Tryz.prog (RetQ [.t 2] R) (init args) σ):ACalls Tryz.prog 77 args σ R:=acalls_of Tryz.func77 c77_ok hl h
end Go.A
end
