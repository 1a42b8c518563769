/- Part 10 of what MathsCalls leans on: CodeRy Ry Rza CodeRzb. -/
import Derived.Test.YtpbiocfpbcpfkaaGreatDoorProg
import Derived.KernelRfl
import Derived.Test.YtpbiocfpbcpfkaaGreatDoorZMathsCallsi
set_option linter.defProp false
set_option linter.unusedSimpArgs false
set_option linter.unusedVariables false
set_option maxRecDepth 100000
namespace Go.A
open Go.Proofs
/-! 46: tabular/tabularref16.up -/
def c46_22:ACode := .seq (.seq (.ops [ oq 17 (.mv (.t 7)),oq 18 (.bin .lss (.t 17) (.v (.int .i64 4)))]) (.cond (.t 18) .skip (.exit 0))) (.seq (.block 1 (.seq (.seq (.ops [ oq 21 (.mv (.t 6)),oq 22 (.bin .gtr (.t 21) (.v (.int .i64 99999999999999999)))]) (.cond (.t 22) (.seq (.ops [ oe 23 (.call 38 [(.v (.int .i64 2))]),oz (.store 3 (.t 4) (.t 23))]) .ret) .skip)) (.ops [ oq 24 (.mv (.t 6)),oq 25 (.bin .mul (.t 24) (.v (.int .i64 10))),oq 6 (.mv (.t 25))]))) (.ops [ oq 19 (.mv (.t 7)),oq 20 (.bin .add (.t 19) (.v (.int .i64 1))),oq 7 (.mv (.t 20))]))
def c46_38:ACode := .seq (.ops [ oe 4 (.alloc [(.int .i64 0),(.int .i64 0),(.str [])])]) (.seq (.ops [ oq 8 (.mv (.t 0)),oq 9 (.mv (.t 1)),oe 10 (.call 44 [(.t 8),(.t 9)]),oq 5 (.mv (.t 10))]) (.seq (.seq (.ops [ oq 11 (.mv (.t 5)),oq 12 (.mv (.t 0)),oq 13 (.bin .eql (.t 11) (.t 12))]) (.cond (.t 13) (.seq (.ops [ oq 14 (.mv (.t 0)),oe 15 (.call 40 [(.t 14)]),oz (.store 3 (.t 4) (.t 15))]) .ret) .skip)) (.seq (.ops [ oq 6 (.mv (.v (.int .i64 1)))]) (.seq (.seq (.ops [ oq 16 (.mv (.t 1)),oq 7 (.mv (.t 16))]) (.block 0 (.loop c46_22))) (.seq (.seq (.ops [ oq 26 (.mv (.t 0)),oq 27 (.bin .lss (.t 26) (.v (.int .i64 0)))]) (.cond (.t 27) (.seq (.ops [ oq 28 (.mv (.t 5)),oq 29 (.mv (.t 6)),oq 30 (.un .neg (.t 29)),oe 31 (.call 82 [(.t 28),(.t 30)]),oq 32 (.ext 0 (.t 31)),oq 33 (.ext 1 (.t 31)),oe 34 (.call 42 [(.t 32),(.t 33)]),oz (.store 3 (.t 4) (.t 34))]) .ret) .skip)) (.seq (.ops [ oq 35 (.mv (.t 5)),oq 36 (.mv (.t 6)),oe 37 (.call 82 [(.t 35),(.t 36)]),oq 38 (.ext 0 (.t 37)),oq 39 (.ext 1 (.t 37)),oe 40 (.call 42 [(.t 38),(.t 39)]),oz (.store 3 (.t 4) (.t 40))]) .ret))))))
@[go_sem] def c46_22_wp:=wp_of c46_22.eq_1
@[go_sem] def c46_38_wp:=wp_of c46_38.eq_1
def c46:AFn:=⟨41,[.c 4 (some 3)],c46_38⟩
theorem c46_ok:compF Tryz.prog Tryz.f46=some c46:=by kernel_rfl
theorem a46 {args:List AV} {σ:ASt} {R:AV->ASt->Prop} (hl:args.length<=41) (h:c46_38.wp Tryz.prog (RetQ [.c 4 (some 3)] R) (init args) σ):ACalls Tryz.prog 46 args σ R:=acalls_of Tryz.func46 c46_ok hl h
/-! 53: tabular/tabularref16.fact -/
def c53_29:ACode := .seq (.seq (.ops [ oq 10 (.mv (.t 4)),oq 11 (.mv (.t 0)),oq 12 (.bin .quo (.t 11) (.v (.int .i64 10000))),oq 13 (.bin .leq (.t 10) (.t 12))]) (.cond (.t 13) .skip (.exit 0))) (.seq (.block 1 (.seq (.seq (.ops [ oq 16 (.mv (.t 4)),oq 17 (.bin .gtr (.t 16) (.v (.int .i64 40)))]) (.cond (.t 17) (.seq (.ops [ oe 18 (.call 38 [(.v (.int .i64 2))]),oz (.store 3 (.t 2) (.t 18))]) .ret) .skip)) (.seq (.ops [ oq 20 (.mv (.t 3)),oq 21 (.mv (.t 4)),oq 22 (.bin .mul (.t 21) (.v (.int .i64 10000))),oe 23 (.call 86 [(.t 20),(.t 22)]),oq 19 (.mv (.t 23)),oq 24 (.ext 0 (.t 19)),oq 25 (.ext 1 (.t 19)),oq 5 (.mv (.t 24)),oq 6 (.mv (.t 25))]) (.seq (.seq (.ops [ oq 26 (.mv (.t 6)),oq 27 (.un .not (.t 26))]) (.cond (.t 27) (.seq (.ops [ oe 28 (.call 38 [(.v (.int .i64 2))]),oz (.store 3 (.t 2) (.t 28))]) .ret) .skip)) (.ops [ oq 29 (.mv (.t 5)),oq 3 (.mv (.t 29))]))))) (.ops [ oq 14 (.mv (.t 4)),oq 15 (.bin .add (.t 14) (.v (.int .i64 1))),oq 4 (.mv (.t 15))]))
def c53_38:ACode := .seq (.ops [ oe 2 (.alloc [(.int .i64 0),(.int .i64 0),(.str [])])]) (.seq (.seq (.ops [ oq 7 (.mv (.t 0)),oq 8 (.bin .lss (.t 7) (.v (.int .i64 0)))]) (.cond (.t 8) (.seq (.ops [ oe 9 (.call 38 [(.v (.int .i64 2))]),oz (.store 3 (.t 2) (.t 9))]) .ret) .skip)) (.seq (.ops [ oq 3 (.mv (.v (.int .i64 10000)))]) (.seq (.seq (.ops [ oq 4 (.mv (.v (.int .i64 2)))]) (.block 0 (.loop c53_29))) (.seq (.ops [ oq 30 (.mv (.t 3)),oe 31 (.call 40 [(.t 30)]),oz (.store 3 (.t 2) (.t 31))]) .ret))))
@[go_sem] def c53_29_wp:=wp_of c53_29.eq_1
@[go_sem] def c53_38_wp:=wp_of c53_38.eq_1
def c53:AFn:=⟨32,[.c 2 (some 3)],c53_38⟩
theorem c53_ok:compF Tryz.prog Tryz.f53=some c53:=by kernel_rfl
theorem a53 {args:List AV} {σ:ASt} {R:AV->ASt->Prop} (hl:args.length<=32) (h:c53_38.wp Tryz.prog (RetQ [.c 2 (some 3)] R) (init args) σ):ACalls Tryz.prog 53 args σ R:=acalls_of Tryz.func53 c53_ok hl h
/-! 55: tabular/tabularref16.many -/
def c55_40:ACode := .seq (.ops [ oq 14 (.bin .lss (.t 13) (.t 12))]) (.seq (.cond (.t 14) .skip (.exit 0)) (.seq (.block 1 (.seq (.ops [ oq 15 (.mv (.t 13)),oq 16 (.ia 1 (.t 11) (.t 13)),oq 17 (.ld none (.t 16)),oq 6 (.mv (.t 15)),oq 7 (.mv (.t 17))]) (.seq (.seq (.ops [ oq 18 (.mv (.t 7)),oq 19 (.bin .lss (.t 18) (.v (.int .i64 0)))]) (.cond (.t 19) (.seq (.ops [ oe 20 (.call 38 [(.v (.int .i64 2))]),oz (.store 3 (.t 4) (.t 20))]) .ret) .skip)) (.seq (.ops [ oq 21 (.mv (.t 7)),oq 22 (.bin .quo (.t 21) (.v (.int .i64 10000))),oq 8 (.mv (.t 22))]) (.seq (.ops [ oq 23 (.mv (.t 6)),oq 24 (.bin .eql (.t 23) (.v (.int .i64 0)))]) (.cond (.t 24) (.ops [ oq 25 (.mv (.t 8)),oq 5 (.mv (.t 25))]) (.seq (.ops [ oq 26 (.mv (.t 1)),oq 27 (.un .not (.t 26))]) (.cond (.t 27) (.ops [ oq 28 (.mv (.t 5)),oq 29 (.mv (.t 8)),oe 30 (.call 87 [(.t 28),(.t 29)]),oq 5 (.mv (.t 30))]) (.seq (.ops [ oq 31 (.mv (.t 5)),oq 32 (.bin .eql (.t 31) (.v (.int .i64 0))),oq 33 (.mv (.t 32)),⟨some 34,some (33,false),.q (.mv (.t 8)),[]⟩,⟨some 35,some (33,false),.q (.bin .eql (.t 34) (.v (.int .i64 0))),[]⟩,oq 36 (.pick (.t 33) (.v (.bool true)) (.t 35))]) (.cond (.t 36) (.ops [ oq 5 (.mv (.v (.int .i64 0)))]) (.seq (.ops [ oq 38 (.mv (.t 5)),oq 39 (.mv (.t 5)),oq 40 (.mv (.t 8)),oe 41 (.call 87 [(.t 39),(.t 40)]),oq 42 (.bin .quo (.t 38) (.t 41)),oq 43 (.bin .mul (.t 42) (.v (.int .i64 10000))),oq 44 (.mv (.t 8)),oq 45 (.bin .mul (.t 44) (.v (.int .i64 10000))),oe 46 (.call 86 [(.t 43),(.t 45)]),oq 37 (.mv (.t 46)),oq 47 (.ext 0 (.t 37)),oq 48 (.ext 1 (.t 37)),oq 9 (.mv (.t 47)),oq 10 (.mv (.t 48))]) (.seq (.seq (.ops [ oq 49 (.mv (.t 10)),oq 50 (.un .not (.t 49))]) (.cond (.t 50) (.seq (.ops [ oe 51 (.call 38 [(.v (.int .i64 2))]),oz (.store 3 (.t 4) (.t 51))]) .ret) .skip)) (.ops [ oq 52 (.mv (.t 9)),oq 53 (.bin .quo (.t 52) (.v (.int .i64 10000))),oq 5 (.mv (.t 53))]))))))))))))) (.ops [ oq 54 (.bin .add (.t 13) (.v (.int .i64 1))),oq 13 (.mv (.t 54))])))
def c55_48:ACode := .seq (.ops [ oe 4 (.alloc [(.int .i64 0),(.int .i64 0),(.str [])])]) (.seq (.ops [ oq 5 (.mv (.v (.int .i64 0)))]) (.seq (.seq (.ops [ oq 11 (.mv (.t 0)),oq 12 (.len (.t 11)),oq 13 (.mv (.v (.int .i64 0)))]) (.block 0 (.loop c55_40))) (.seq (.ops [ oq 55 (.mv (.t 5)),oq 56 (.bin .mul (.t 55) (.v (.int .i64 10000))),oe 57 (.call 40 [(.t 56)]),oz (.store 3 (.t 4) (.t 57))]) .ret)))
@[go_sem] def c55_40_wp:=wp_of c55_40.eq_1
@[go_sem] def c55_48_wp:=wp_of c55_48.eq_1
def c55:AFn:=⟨58,[.c 4 (some 3)],c55_48⟩
theorem c55_ok:compF Tryz.prog Tryz.f55=some c55:=by kernel_rfl
theorem a55 {args:List AV} {σ:ASt} {R:AV->ASt->Prop} (hl:args.length<=58) (h:c55_48.wp Tryz.prog (RetQ [.c 4 (some 3)] R) (init args) σ):ACalls Tryz.prog 55 args σ R:=acalls_of Tryz.func55 c55_ok hl h
end Go.A
namespace Go.A
open Go.Proofs Go.Lib
theorem rtrunc_g {a:Int} (p:Int) (ha:a.natAbs<=999999999999999999):Pure Tryz.prog 44 [.int .i64 a,.int .i64 p] (.int .i64 (truncG a p)):=by
 unfold truncG
 by_cases h1:p < -14
 ·rw [if_pos h1];exact rtrunc_lo h1
 rw [if_neg h1]
 by_cases h2:4<=p
 ·rw [if_pos h2];exact rtrunc_hi h2
 rw [if_neg h2]
 exact rtrunc_ok ha (by omega) (by omega)
def upS (m:Nat):Option Int:=if m<=17 then some ((10 ^ m:Nat):Int) else none
theorem upS_all:∀ k:Fin 24,awStep ((k.1:Int)-20)=upS (24-k.1):=by decide +kernel
theorem upS_is {p:Int} (h0 : -20<=p) (h1:p<4):awStep p=upS (4-p).toNat:=by
 have:=upS_all ⟨(p+20).toNat,by omega⟩
 dsimp only at this
 rw [show (((p+20).toNat:Nat):Int)-20=p by omega,show 24-(p+20).toNat=(4-p).toNat by omega] at this
 exact this
theorem awayP_same {a p:Int} (h:truncG a p=a):awayP a p = .num a:=by unfold awayP;rw [if_pos h]
theorem awayP_none {a p:Int} (h:¬ truncG a p=a) (hs:awStep p=none):awayP a p = .fail 2:=by unfold awayP;rw [if_neg h,hs]
theorem awayP_some {a p s:Int} (h:¬ truncG a p=a) (hs:awStep p=some s):awayP a p=cntP (fitP (if a<0 then truncG a p-s else truncG a p+s)):=by unfold awayP;rw [if_neg h,hs]
set_option maxHeartbeats 1000000 in
theorem rup_ok {a p:Int} (ha:a.natAbs<=999999999999999999) (h0 : -20<=p) (h1:p<=20):Pure Tryz.prog 46 [.int .i64 a,.int .i64 p] (tellAV (awayP a p)):=by
 intro σ
 have hT:=rtrunc_g p ha
 have hl:=truncG_le a p
 have w1 := @awayP_same a p
 have w2 := @awayP_none a p
 have w3 := @awayP_some a p
 obtain ⟨X,hX⟩:∃ X,awayP a p=X:=⟨_,rfl⟩
 rw [hX] at w1 w2 w3 ⊢
 refine a46 (by simp) ?_
 obtain ⟨t,ht⟩:∃ t,truncG a p=t:=⟨_,rfl⟩
 rw [ht] at hT hl w1 w2 w3
 simp (disch:=first|assumption|omega|(simp only [List.length_append,List.length_cons,List.length_nil];omega)) only [go_sem,reduceCtorEq,Nat.reduceEqDiff,Nat.reduceAdd,Nat.reduceSub,Nat.reduceMul,Nat.reduceLeDiff,Int.reduceLT,Int.reduceLE,Int.reduceEq,↓reduceIte,Int.reduceNeg,Int.reduceAdd,Int.reduceSub,Int.reduceMul,true_imp_iff,forall_const,Nat.mul_one,Int.reduceToNat,Nat.reducePow,Int.reducePow,Bool.true_and,Bool.false_and,Bool.and_false]
 refine allocC_by fun c hc=>?_
 repeat (with_reducible replace hc:=set_none hc;obtain ⟨_,_,hc⟩:=hc)
 simp (disch:=first|assumption|omega|(simp only [List.length_append,List.length_cons,List.length_nil];omega)) only [go_sem,reduceCtorEq,Nat.reduceEqDiff,Nat.reduceAdd,Nat.reduceSub,Nat.reduceMul,Nat.reduceLeDiff,Int.reduceLT,Int.reduceLE,Int.reduceEq,↓reduceIte,Int.reduceNeg,Int.reduceAdd,Int.reduceSub,Int.reduceMul,true_imp_iff,forall_const,Nat.mul_one,Int.reduceToNat,Nat.reducePow,Int.reducePow,Bool.true_and,Bool.false_and,Bool.and_false]
 refine hT.use ?_
 by_cases hta:t=a
 ·rw [w1 hta]
  have hN:=rNum_ok a
  simp only [tellAV] at hN ⊢
  simp (disch:=first|assumption|omega|(simp only [List.length_append,List.length_cons,List.length_nil];omega)) only [go_sem,reduceCtorEq,Nat.reduceEqDiff,Nat.reduceAdd,Nat.reduceSub,Nat.reduceMul,Nat.reduceLeDiff,Int.reduceLT,Int.reduceLE,Int.reduceEq,↓reduceIte,Int.reduceNeg,Int.reduceAdd,Int.reduceSub,Int.reduceMul,true_imp_iff,forall_const,Nat.mul_one,Int.reduceToNat,Nat.reducePow,Int.reducePow,Bool.true_and,Bool.false_and,Bool.and_false,hta]
  refine hN.use ?_
  simp (disch:=first|assumption|omega|(simp only [List.length_append,List.length_cons,List.length_nil];omega)) only [go_sem,reduceCtorEq,Nat.reduceEqDiff,Nat.reduceAdd,Nat.reduceSub,Nat.reduceMul,Nat.reduceLeDiff,Int.reduceLT,Int.reduceLE,Int.reduceEq,↓reduceIte,Int.reduceNeg,Int.reduceAdd,Int.reduceSub,Int.reduceMul,true_imp_iff,forall_const,Nat.mul_one,Int.reduceToNat,Nat.reducePow,Int.reducePow,Bool.true_and,Bool.false_and,Bool.and_false,ASt.set_set]
  exact retC_by (by repeat' (first|exact Drop.refl _|with_reducible refine Drop.off ?_ (by assumption))) (.refl _) ⟨rfl,rfl⟩
 have hp4:p<4:=by
  refine Int.not_le.1 fun h=>hta ?_
  rw [<-ht]
  unfold truncG
  rw [if_neg (by omega),if_pos h]
 have hus:=upS_is h0 hp4
 obtain ⟨m,hm⟩:∃ m:Nat,(4-p).toNat=m:=⟨_,rfl⟩
 rw [hm] at hus
 have em:p=4-(m:Int):=by omega
 clear hT
 obtain ⟨x,y,z,hxz⟩:=tell_agg X
 rw [hxz]
 simp (disch:=first|assumption|omega|(simp only [List.length_append,List.length_cons,List.length_nil];omega)) only [go_sem,reduceCtorEq,Nat.reduceEqDiff,Nat.reduceAdd,Nat.reduceSub,Nat.reduceMul,Nat.reduceLeDiff,Int.reduceLT,Int.reduceLE,Int.reduceEq,↓reduceIte,Int.reduceNeg,Int.reduceAdd,Int.reduceSub,Int.reduceMul,true_imp_iff,forall_const,Nat.mul_one,Int.reduceToNat,Nat.reducePow,Int.reducePow,Bool.true_and,Bool.false_and,Bool.and_false,hta]
 refine wp_loop_on (fun (j:Nat) a1 s=>(j<=m/\j<=17)/\(∃ w:Nat,10 ^ j=w/\(a1 6 = .int .i64 w))/\(a1 0 = .int .i64 a/\a1 4 = .ptr c 0/\a1 5 = .int .i64 t/\a1 7 = .int .i64 (p+j))/\s=σ.set c (some (.obj [.int .i64 0,.int .i64 0,.str []]))) (fun j=>m-j) 0 ⟨by omega,⟨1,rfl,?_⟩,?_,rfl⟩ ?_
 ·simp (disch:=first|assumption|omega|(simp only [List.length_append,List.length_cons,List.length_nil];omega)) only [go_sem,reduceCtorEq,Nat.reduceEqDiff,Nat.reduceAdd,Nat.reduceSub,Nat.reduceMul,Nat.reduceLeDiff,Int.reduceLT,Int.reduceLE,Int.reduceEq,↓reduceIte,Int.reduceNeg,Int.reduceAdd,Int.reduceSub,Int.reduceMul,true_imp_iff,forall_const,Nat.mul_one,Int.reduceToNat,Nat.reducePow,Int.reducePow,Bool.true_and,Bool.false_and,Bool.and_false]
  try rfl
 ·simp (disch:=first|assumption|omega|(simp only [List.length_append,List.length_cons,List.length_nil];omega)) only [go_sem,reduceCtorEq,Nat.reduceEqDiff,Nat.reduceAdd,Nat.reduceSub,Nat.reduceMul,Nat.reduceLeDiff,Int.reduceLT,Int.reduceLE,Int.reduceEq,↓reduceIte,Int.reduceNeg,Int.reduceAdd,Int.reduceSub,Int.reduceMul,true_imp_iff,forall_const,Nat.mul_one,Int.reduceToNat,Nat.reducePow,Int.reducePow,Bool.true_and,Bool.false_and,Bool.and_false]
  try simp
 rintro j a1 s1 ⟨⟨hj,hj17⟩,⟨w,hw,hf6⟩,hf,rfl⟩
 have hwb:w<=100000000000000000:=by rw [<-hw];exact Nat.pow_le_pow_right (n:=10) (by omega) hj17
 obtain ⟨q,hq⟩:∃ q:Int,p+j=q:=⟨_,rfl⟩
 rw [hq] at hf
 by_cases hlt:j<m
 ·have hlt':q<4:=by omega
  by_cases h17:j=17
  ·have hw17:w=100000000000000000:=by rw [<-hw,h17]
   have g1:(99999999999999999:Int)<w:=by omega
   have hx2:X=PV.fail 2:=w2 hta (by rw [hus];unfold upS;rw [if_neg (by omega)])
   have hF:=rFail_ok 2 (by omega) (by omega)
   rw [hx2] at hxz
   rw [hxz] at hF
   simp (disch:=first|assumption|omega|(simp only [List.length_append,List.length_cons,List.length_nil];omega)) only [go_sem,reduceCtorEq,Nat.reduceEqDiff,Nat.reduceAdd,Nat.reduceSub,Nat.reduceMul,Nat.reduceLeDiff,Int.reduceLT,Int.reduceLE,Int.reduceEq,↓reduceIte,Int.reduceNeg,Int.reduceAdd,Int.reduceSub,Int.reduceMul,true_imp_iff,forall_const,Nat.mul_one,Int.reduceToNat,Nat.reducePow,Int.reducePow,Bool.true_and,Bool.false_and,Bool.and_false,hf,hf6,hlt',g1]
   refine hF.use ?_
   simp (disch:=first|assumption|omega|(simp only [List.length_append,List.length_cons,List.length_nil];omega)) only [go_sem,reduceCtorEq,Nat.reduceEqDiff,Nat.reduceAdd,Nat.reduceSub,Nat.reduceMul,Nat.reduceLeDiff,Int.reduceLT,Int.reduceLE,Int.reduceEq,↓reduceIte,Int.reduceNeg,Int.reduceAdd,Int.reduceSub,Int.reduceMul,true_imp_iff,forall_const,Nat.mul_one,Int.reduceToNat,Nat.reducePow,Int.reducePow,Bool.true_and,Bool.false_and,Bool.and_false,hf,ASt.set_set]
   exact retC_by (by repeat' (first|exact Drop.refl _|with_reducible refine Drop.off ?_ (by assumption))) (.refl _) ⟨rfl,rfl⟩
  ·have hw16:w<=10000000000000000:=by
    have:=Nat.pow_le_pow_right (n:=10) (by omega) (show j<=16 by omega)
    rw [hw] at this
    omega
   have g1:¬ (99999999999999999:Int)<w:=by omega
   have e1:(w:Int)*10=((w*10:Nat):Int):=by omega
   obtain ⟨u,hu⟩:∃ u,w*10=u:=⟨_,rfl⟩
   rw [hu] at e1
   simp (disch:=first|assumption|omega|(simp only [List.length_append,List.length_cons,List.length_nil];omega)) only [go_sem,reduceCtorEq,Nat.reduceEqDiff,Nat.reduceAdd,Nat.reduceSub,Nat.reduceMul,Nat.reduceLeDiff,Int.reduceLT,Int.reduceLE,Int.reduceEq,↓reduceIte,Int.reduceNeg,Int.reduceAdd,Int.reduceSub,Int.reduceMul,true_imp_iff,forall_const,Nat.mul_one,Int.reduceToNat,Nat.reducePow,Int.reducePow,Bool.true_and,Bool.false_and,Bool.and_false,hf,hf6,hlt',g1,e1]
   refine ⟨j+1,by omega,by omega,⟨u,by rw [Nat.pow_succ,hw,hu],rfl⟩,?_⟩
   rw [<-hq]
   first
    | omega
    | (simp;omega)
    | (congr 1;omega)
 ·have hlt':¬ q<4:=by omega
  obtain rfl:j=m:=by omega
  have hx2:X=cntP (fitP (if a<0 then t-w else t+w)):=w3 hta (by rw [hus];unfold upS;rw [if_pos hj17,hw])
  have hC:∀ o,o=fitP (if a<0 then t-w else t+w)->Pure Tryz.prog 42 [.int .i64 (o.getD 0),.bool o.isSome] (.agg [.int .i64 x,.int .i64 y,.str z]):=by
   intro o ho
   rw [<-hxz,hx2,← ho]
   exact r15counted_ok o
  by_cases ha0:a<0
  ·have hA:=radd_ok (a:=t) (b:=0-(w:Int)) (by omega)
   have k:=hC (fitP (t+(0-(w:Int)))) (by rw [if_pos ha0];congr 1;omega)
   generalize fitP (t+(0-(w:Int)))=D at *
   simp only [resAV] at hA
   simp (disch:=first|assumption|omega|(simp only [List.length_append,List.length_cons,List.length_nil];omega)) only [go_sem,reduceCtorEq,Nat.reduceEqDiff,Nat.reduceAdd,Nat.reduceSub,Nat.reduceMul,Nat.reduceLeDiff,Int.reduceLT,Int.reduceLE,Int.reduceEq,↓reduceIte,Int.reduceNeg,Int.reduceAdd,Int.reduceSub,Int.reduceMul,true_imp_iff,forall_const,Nat.mul_one,Int.reduceToNat,Nat.reducePow,Int.reducePow,Bool.true_and,Bool.false_and,Bool.and_false,hf,hf6,hlt',ha0]
   refine hA.use ?_
   simp (disch:=first|assumption|omega|(simp only [List.length_append,List.length_cons,List.length_nil];omega)) only [go_sem,reduceCtorEq,Nat.reduceEqDiff,Nat.reduceAdd,Nat.reduceSub,Nat.reduceMul,Nat.reduceLeDiff,Int.reduceLT,Int.reduceLE,Int.reduceEq,↓reduceIte,Int.reduceNeg,Int.reduceAdd,Int.reduceSub,Int.reduceMul,true_imp_iff,forall_const,Nat.mul_one,Int.reduceToNat,Nat.reducePow,Int.reducePow,Bool.true_and,Bool.false_and,Bool.and_false,hf]
   refine k.use ?_
   simp (disch:=first|assumption|omega|(simp only [List.length_append,List.length_cons,List.length_nil];omega)) only [go_sem,reduceCtorEq,Nat.reduceEqDiff,Nat.reduceAdd,Nat.reduceSub,Nat.reduceMul,Nat.reduceLeDiff,Int.reduceLT,Int.reduceLE,Int.reduceEq,↓reduceIte,Int.reduceNeg,Int.reduceAdd,Int.reduceSub,Int.reduceMul,true_imp_iff,forall_const,Nat.mul_one,Int.reduceToNat,Nat.reducePow,Int.reducePow,Bool.true_and,Bool.false_and,Bool.and_false,hf,ASt.set_set]
   exact retC_by (by repeat' (first|exact Drop.refl _|with_reducible refine Drop.off ?_ (by assumption))) (.refl _) ⟨rfl,rfl⟩
  ·have hA:=radd_ok (a:=t) (b:=(w:Int)) (by omega)
   have k:=hC (fitP (t+w)) (by rw [if_neg ha0])
   generalize fitP (t+(w:Int))=D at *
   simp only [resAV] at hA
   simp (disch:=first|assumption|omega|(simp only [List.length_append,List.length_cons,List.length_nil];omega)) only [go_sem,reduceCtorEq,Nat.reduceEqDiff,Nat.reduceAdd,Nat.reduceSub,Nat.reduceMul,Nat.reduceLeDiff,Int.reduceLT,Int.reduceLE,Int.reduceEq,↓reduceIte,Int.reduceNeg,Int.reduceAdd,Int.reduceSub,Int.reduceMul,true_imp_iff,forall_const,Nat.mul_one,Int.reduceToNat,Nat.reducePow,Int.reducePow,Bool.true_and,Bool.false_and,Bool.and_false,hf,hf6,hlt',ha0]
   refine hA.use ?_
   simp (disch:=first|assumption|omega|(simp only [List.length_append,List.length_cons,List.length_nil];omega)) only [go_sem,reduceCtorEq,Nat.reduceEqDiff,Nat.reduceAdd,Nat.reduceSub,Nat.reduceMul,Nat.reduceLeDiff,Int.reduceLT,Int.reduceLE,Int.reduceEq,↓reduceIte,Int.reduceNeg,Int.reduceAdd,Int.reduceSub,Int.reduceMul,true_imp_iff,forall_const,Nat.mul_one,Int.reduceToNat,Nat.reducePow,Int.reducePow,Bool.true_and,Bool.false_and,Bool.and_false,hf]
   refine k.use ?_
   simp (disch:=first|assumption|omega|(simp only [List.length_append,List.length_cons,List.length_nil];omega)) only [go_sem,reduceCtorEq,Nat.reduceEqDiff,Nat.reduceAdd,Nat.reduceSub,Nat.reduceMul,Nat.reduceLeDiff,Int.reduceLT,Int.reduceLE,Int.reduceEq,↓reduceIte,Int.reduceNeg,Int.reduceAdd,Int.reduceSub,Int.reduceMul,true_imp_iff,forall_const,Nat.mul_one,Int.reduceToNat,Nat.reducePow,Int.reducePow,Bool.true_and,Bool.false_and,Bool.and_false,hf,ASt.set_set]
   exact retC_by (by repeat' (first|exact Drop.refl _|with_reducible refine Drop.off ?_ (by assumption))) (.refl _) ⟨rfl,rfl⟩
set_option maxHeartbeats 1000000 in
theorem rfact_ok {a:Int} (ha:a.natAbs<=999999999999999999):Pure Tryz.prog 53 [.int .i64 a] (tellAV (factV a)):=by
 intro σ
 have hF:=rFail_ok 2 (by omega) (by omega)
 unfold factV
 refine a53 (by simp) ?_
 simp (disch:=first|assumption|omega|(simp only [List.length_append,List.length_cons,List.length_nil];omega)) only [go_sem,reduceCtorEq,Nat.reduceEqDiff,Nat.reduceAdd,Nat.reduceSub,Nat.reduceMul,Nat.reduceLeDiff,Int.reduceLT,Int.reduceLE,Int.reduceEq,↓reduceIte,Int.reduceNeg,Int.reduceAdd,Int.reduceSub,Int.reduceMul,true_imp_iff,forall_const,Nat.mul_one,Int.reduceToNat,Nat.reducePow,Int.reducePow,Bool.true_and,Bool.false_and,Bool.and_false]
 refine allocC_by fun c hc=>?_
 repeat (with_reducible replace hc:=set_none hc;obtain ⟨_,_,hc⟩:=hc)
 by_cases h0:a<0
 ·rw [if_pos h0]
  simp only [tellAV] at hF ⊢
  simp (disch:=first|assumption|omega|(simp only [List.length_append,List.length_cons,List.length_nil];omega)) only [go_sem,reduceCtorEq,Nat.reduceEqDiff,Nat.reduceAdd,Nat.reduceSub,Nat.reduceMul,Nat.reduceLeDiff,Int.reduceLT,Int.reduceLE,Int.reduceEq,↓reduceIte,Int.reduceNeg,Int.reduceAdd,Int.reduceSub,Int.reduceMul,true_imp_iff,forall_const,Nat.mul_one,Int.reduceToNat,Nat.reducePow,Int.reducePow,Bool.true_and,Bool.false_and,Bool.and_false,h0]
  refine hF.use ?_
  simp (disch:=first|assumption|omega|(simp only [List.length_append,List.length_cons,List.length_nil];omega)) only [go_sem,reduceCtorEq,Nat.reduceEqDiff,Nat.reduceAdd,Nat.reduceSub,Nat.reduceMul,Nat.reduceLeDiff,Int.reduceLT,Int.reduceLE,Int.reduceEq,↓reduceIte,Int.reduceNeg,Int.reduceAdd,Int.reduceSub,Int.reduceMul,true_imp_iff,forall_const,Nat.mul_one,Int.reduceToNat,Nat.reducePow,Int.reducePow,Bool.true_and,Bool.false_and,Bool.and_false,ASt.set_set]
  exact retC_by (by repeat' (first|exact Drop.refl _|with_reducible refine Drop.off ?_ (by assumption))) (.refl _) ⟨rfl,rfl⟩
 rw [if_neg h0]
 obtain ⟨n,hn⟩:∃ n:Nat,a.toNat / 10000=n:=⟨_,rfl⟩
 have en:a.tdiv 10000=n:=by rw [Int.tdiv_eq_ediv_of_nonneg (by omega)];omega
 rw [hn]
 simp (disch:=first|assumption|omega|(simp only [List.length_append,List.length_cons,List.length_nil];omega)) only [go_sem,reduceCtorEq,Nat.reduceEqDiff,Nat.reduceAdd,Nat.reduceSub,Nat.reduceMul,Nat.reduceLeDiff,Int.reduceLT,Int.reduceLE,Int.reduceEq,↓reduceIte,Int.reduceNeg,Int.reduceAdd,Int.reduceSub,Int.reduceMul,true_imp_iff,forall_const,Nat.mul_one,Int.reduceToNat,Nat.reducePow,Int.reducePow,Bool.true_and,Bool.false_and,Bool.and_false,h0]
 refine wp_loop_on (fun (i:Nat) a1 s=>(i<=n-1/\i<=16)/\(∃ p:Int,facO i=some p/\(a1 3 = .int .i64 p))/\(a1 0 = .int .i64 a/\a1 2 = .ptr c 0/\a1 4 = .int .i64 ((i+2:Nat):Int))/\s=σ.set c (some (.obj [.int .i64 0,.int .i64 0,.str []]))) (fun i=>n-i) 0 ⟨by omega,⟨10000,rfl,?_⟩,?_,rfl⟩ ?_
 ·simp (disch:=first|assumption|omega|(simp only [List.length_append,List.length_cons,List.length_nil];omega)) only [go_sem,reduceCtorEq,Nat.reduceEqDiff,Nat.reduceAdd,Nat.reduceSub,Nat.reduceMul,Nat.reduceLeDiff,Int.reduceLT,Int.reduceLE,Int.reduceEq,↓reduceIte,Int.reduceNeg,Int.reduceAdd,Int.reduceSub,Int.reduceMul,true_imp_iff,forall_const,Nat.mul_one,Int.reduceToNat,Nat.reducePow,Int.reducePow,Bool.true_and,Bool.false_and,Bool.and_false]
 ·simp (disch:=first|assumption|omega|(simp only [List.length_append,List.length_cons,List.length_nil];omega)) only [go_sem,reduceCtorEq,Nat.reduceEqDiff,Nat.reduceAdd,Nat.reduceSub,Nat.reduceMul,Nat.reduceLeDiff,Int.reduceLT,Int.reduceLE,Int.reduceEq,↓reduceIte,Int.reduceNeg,Int.reduceAdd,Int.reduceSub,Int.reduceMul,true_imp_iff,forall_const,Nat.mul_one,Int.reduceToNat,Nat.reducePow,Int.reducePow,Bool.true_and,Bool.false_and,Bool.and_false]
 rintro i a1 s1 ⟨⟨hi,hi16⟩,⟨p,hp,hf3⟩,hf,rfl⟩
 obtain ⟨I,hI⟩:∃ I:Nat,i+2=I:=⟨_,rfl⟩
 rw [hI] at hf
 have hpb:=facO_le hp
 by_cases hlt:i<n-1
 ·have hlt':(I:Int)<=n:=by omega
  have h40:¬ (40:Int)<I:=by omega
  have hM:=rmul_ok p ((I:Int)*10000) hpb (by omega)
  have hs:facO (i+1)=mulR p ((I:Int)*10000):=by rw [facO,hp,Option.bind_some,hI]
  cases hq:mulR p ((I:Int)*10000) with
  | none=>
    rw [hq] at hM hs
    rw [facO_none hs hlt]
    simp only [resAV,Option.getD_none,Option.isSome_none] at hM
    simp only [cntP,tellAV] at hF ⊢
    simp (disch:=first|assumption|omega|(simp only [List.length_append,List.length_cons,List.length_nil];omega)) only [go_sem,reduceCtorEq,Nat.reduceEqDiff,Nat.reduceAdd,Nat.reduceSub,Nat.reduceMul,Nat.reduceLeDiff,Int.reduceLT,Int.reduceLE,Int.reduceEq,↓reduceIte,Int.reduceNeg,Int.reduceAdd,Int.reduceSub,Int.reduceMul,true_imp_iff,forall_const,Nat.mul_one,Int.reduceToNat,Nat.reducePow,Int.reducePow,Bool.true_and,Bool.false_and,Bool.and_false,hf,hf3,en,hlt',h40]
    refine hM.use ?_
    simp (disch:=first|assumption|omega|(simp only [List.length_append,List.length_cons,List.length_nil];omega)) only [go_sem,reduceCtorEq,Nat.reduceEqDiff,Nat.reduceAdd,Nat.reduceSub,Nat.reduceMul,Nat.reduceLeDiff,Int.reduceLT,Int.reduceLE,Int.reduceEq,↓reduceIte,Int.reduceNeg,Int.reduceAdd,Int.reduceSub,Int.reduceMul,true_imp_iff,forall_const,Nat.mul_one,Int.reduceToNat,Nat.reducePow,Int.reducePow,Bool.true_and,Bool.false_and,Bool.and_false,hf]
    refine hF.use ?_
    simp (disch:=first|assumption|omega|(simp only [List.length_append,List.length_cons,List.length_nil];omega)) only [go_sem,reduceCtorEq,Nat.reduceEqDiff,Nat.reduceAdd,Nat.reduceSub,Nat.reduceMul,Nat.reduceLeDiff,Int.reduceLT,Int.reduceLE,Int.reduceEq,↓reduceIte,Int.reduceNeg,Int.reduceAdd,Int.reduceSub,Int.reduceMul,true_imp_iff,forall_const,Nat.mul_one,Int.reduceToNat,Nat.reducePow,Int.reducePow,Bool.true_and,Bool.false_and,Bool.and_false,hf,ASt.set_set]
    exact retC_by (by repeat' (first|exact Drop.refl _|with_reducible refine Drop.off ?_ (by assumption))) (.refl _) ⟨rfl,rfl⟩
  | some q=>
    rw [hq] at hM hs
    have hi15:i+1<=16:=by
     refine Nat.not_lt.1 fun h=>?_
     rw [facO_none facO_16 (show 16<=i+1 by omega)] at hs
     cases hs
    simp only [resAV,Option.getD_some,Option.isSome_some] at hM
    simp (disch:=first|assumption|omega|(simp only [List.length_append,List.length_cons,List.length_nil];omega)) only [go_sem,reduceCtorEq,Nat.reduceEqDiff,Nat.reduceAdd,Nat.reduceSub,Nat.reduceMul,Nat.reduceLeDiff,Int.reduceLT,Int.reduceLE,Int.reduceEq,↓reduceIte,Int.reduceNeg,Int.reduceAdd,Int.reduceSub,Int.reduceMul,true_imp_iff,forall_const,Nat.mul_one,Int.reduceToNat,Nat.reducePow,Int.reducePow,Bool.true_and,Bool.false_and,Bool.and_false,hf,hf3,en,hlt',h40]
    refine hM.use ?_
    simp (disch:=first|assumption|omega|(simp only [List.length_append,List.length_cons,List.length_nil];omega)) only [go_sem,reduceCtorEq,Nat.reduceEqDiff,Nat.reduceAdd,Nat.reduceSub,Nat.reduceMul,Nat.reduceLeDiff,Int.reduceLT,Int.reduceLE,Int.reduceEq,↓reduceIte,Int.reduceNeg,Int.reduceAdd,Int.reduceSub,Int.reduceMul,true_imp_iff,forall_const,Nat.mul_one,Int.reduceToNat,Nat.reducePow,Int.reducePow,Bool.true_and,Bool.false_and,Bool.and_false,hf]
    refine ⟨i+1,by omega,by omega,⟨q,hs,rfl⟩,?_⟩
    rw [<-hI]
    simp
    omega
 ·have hlt':¬ (I:Int)<=n:=by omega
  obtain rfl:i=n-1:=by omega
  rw [hp]
  have hN:=rNum_ok p
  simp only [cntP,tellAV] at hN ⊢
  simp (disch:=first|assumption|omega|(simp only [List.length_append,List.length_cons,List.length_nil];omega)) only [go_sem,reduceCtorEq,Nat.reduceEqDiff,Nat.reduceAdd,Nat.reduceSub,Nat.reduceMul,Nat.reduceLeDiff,Int.reduceLT,Int.reduceLE,Int.reduceEq,↓reduceIte,Int.reduceNeg,Int.reduceAdd,Int.reduceSub,Int.reduceMul,true_imp_iff,forall_const,Nat.mul_one,Int.reduceToNat,Nat.reducePow,Int.reducePow,Bool.true_and,Bool.false_and,Bool.and_false,hf,hf3,en,hlt']
  refine hN.use ?_
  simp (disch:=first|assumption|omega|(simp only [List.length_append,List.length_cons,List.length_nil];omega)) only [go_sem,reduceCtorEq,Nat.reduceEqDiff,Nat.reduceAdd,Nat.reduceSub,Nat.reduceMul,Nat.reduceLeDiff,Int.reduceLT,Int.reduceLE,Int.reduceEq,↓reduceIte,Int.reduceNeg,Int.reduceAdd,Int.reduceSub,Int.reduceMul,true_imp_iff,forall_const,Nat.mul_one,Int.reduceToNat,Nat.reducePow,Int.reducePow,Bool.true_and,Bool.false_and,Bool.and_false,hf,ASt.set_set]
  exact retC_by (by repeat' (first|exact Drop.refl _|with_reducible refine Drop.off ?_ (by assumption))) (.refl _) ⟨rfl,rfl⟩
theorem int_at {L:List Int} {i:Nat} {x:Int} (h:L[i]? = some x):(L.map (AV.int .i64))[i]? = some (.int .i64 x):=by rw [List.getElem?_map,h];rfl
set_option maxHeartbeats 2000000 in
theorem rmany_ok (k:SK) (N:List Int) (g:Bool) (hn:N.length<=1000) (h1:1<=N.length) (hN:∀ a∈N,a.natAbs<=999999999999999999):Pure Tryz.prog 55 [.sl k (N.map (AV.int .i64)),.bool (!g)] (tellAV (manyP g N)):=by
 intro σ
 have hF:=rFail_ok 2 (by omega) (by omega)
 have w0:manyS g (-1) N=none->manyP g N = .fail 2:=fun h=>by unfold manyP;rw [h]
 have w1:∀ n:Int,manyS g (-1) N=some n->manyP g N=cntP (intP n):=fun n h=>by unfold manyP;rw [h]
 generalize manyP g N=X at *
 obtain ⟨R,hR⟩:∃ R,manyS g (-1) N=R:=⟨_,rfl⟩
 rw [hR] at w0 w1
 obtain ⟨x1,x2,x3,hX⟩:=tell_agg X
 rw [hX]
 refine a55 (by simp) ?_
 simp (disch:=first|assumption|omega|(simp only [List.length_append,List.length_cons,List.length_nil];omega)) only [go_sem,reduceCtorEq,Nat.reduceEqDiff,Nat.reduceAdd,Nat.reduceSub,Nat.reduceMul,Nat.reduceLeDiff,Int.reduceLT,Int.reduceLE,Int.reduceEq,↓reduceIte,Int.reduceNeg,Int.reduceAdd,Int.reduceSub,Int.reduceMul,true_imp_iff,forall_const,Nat.mul_one,Int.reduceToNat,Nat.reducePow,Int.reducePow,Bool.true_and,Bool.false_and,Bool.and_false]
 refine allocC_by fun c hc=>?_
 repeat (with_reducible replace hc:=set_none hc;obtain ⟨_,_,hc⟩:=hc)
 simp (disch:=first|assumption|omega|(simp only [List.length_append,List.length_cons,List.length_nil];omega)) only [go_sem,reduceCtorEq,Nat.reduceEqDiff,Nat.reduceAdd,Nat.reduceSub,Nat.reduceMul,Nat.reduceLeDiff,Int.reduceLT,Int.reduceLE,Int.reduceEq,↓reduceIte,Int.reduceNeg,Int.reduceAdd,Int.reduceSub,Int.reduceMul,true_imp_iff,forall_const,Nat.mul_one,Int.reduceToNat,Nat.reducePow,Int.reducePow,Bool.true_and,Bool.false_and,Bool.and_false]
 refine wp_loop_on (fun (i:Nat) a1 s=>i<=N.length/\(∃ n:Nat,manyS g (if i=0 then -1 else (n:Int)) (N.drop i)=R/\n<=99999999999999/\(a1 5 = .int .i64 n))/\(a1 1 = .bool (!g)/\a1 4 = .ptr c 0/\a1 11 = .sl k (N.map (AV.int .i64))/\a1 12 = .int .i64 N.length/\a1 13 = .int .i64 i)/\s=σ.set c (some (.obj [.int .i64 0,.int .i64 0,.str []]))) (fun i=>N.length-i) 0 ⟨Nat.zero_le _,⟨0,hR,by omega,?_⟩,?_,rfl⟩ ?_
 ·simp (disch:=first|assumption|omega|(simp only [List.length_append,List.length_cons,List.length_nil];omega)) only [go_sem,reduceCtorEq,Nat.reduceEqDiff,Nat.reduceAdd,Nat.reduceSub,Nat.reduceMul,Nat.reduceLeDiff,Int.reduceLT,Int.reduceLE,Int.reduceEq,↓reduceIte,Int.reduceNeg,Int.reduceAdd,Int.reduceSub,Int.reduceMul,true_imp_iff,forall_const,Nat.mul_one,Int.reduceToNat,Nat.reducePow,Int.reducePow,Bool.true_and,Bool.false_and,Bool.and_false]
 ·simp (disch:=first|assumption|omega|(simp only [List.length_append,List.length_cons,List.length_nil];omega)) only [go_sem,reduceCtorEq,Nat.reduceEqDiff,Nat.reduceAdd,Nat.reduceSub,Nat.reduceMul,Nat.reduceLeDiff,Int.reduceLT,Int.reduceLE,Int.reduceEq,↓reduceIte,Int.reduceNeg,Int.reduceAdd,Int.reduceSub,Int.reduceMul,true_imp_iff,forall_const,Nat.mul_one,Int.reduceToNat,Nat.reducePow,Int.reducePow,Bool.true_and,Bool.false_and,Bool.and_false]
 rintro i a1 s1 ⟨hi,⟨n,hM,hnb,hf5⟩,hf,rfl⟩
 have fail:R=none->X = .fail 2:=w0
 by_cases hlt:i<N.length
 ·have hlt':(i:Int)<N.length:=by omega
  obtain ⟨x,hx⟩:∃ x,N[i]? = some x:=⟨_,List.getElem?_eq_getElem hlt⟩
  have hgx:=int_at hx
  have hxb:=hN x (List.mem_of_getElem? hx)
  have hdr:N.drop i=x::N.drop (i+1):=by
   obtain ⟨_,rfl⟩:=List.getElem?_eq_some_iff.1 hx
   exact List.drop_eq_getElem_cons hlt
  rw [hdr,manyS] at hM
  have hl2:i+1<=N.length:=hlt
  by_cases hx0:x<0
  ·rw [if_pos hx0] at hM
   have:=fail hM.symm
   rw [this] at hX
   rw [hX] at hF
   simp (disch:=first|assumption|omega|(simp only [List.length_append,List.length_cons,List.length_nil];omega)) only [go_sem,reduceCtorEq,Nat.reduceEqDiff,Nat.reduceAdd,Nat.reduceSub,Nat.reduceMul,Nat.reduceLeDiff,Int.reduceLT,Int.reduceLE,Int.reduceEq,↓reduceIte,Int.reduceNeg,Int.reduceAdd,Int.reduceSub,Int.reduceMul,true_imp_iff,forall_const,Nat.mul_one,Int.reduceToNat,Nat.reducePow,Int.reducePow,Bool.true_and,Bool.false_and,Bool.and_false,hf,hf5,hlt',hgx,hx0]
   refine hF.use ?_
   simp (disch:=first|assumption|omega|(simp only [List.length_append,List.length_cons,List.length_nil];omega)) only [go_sem,reduceCtorEq,Nat.reduceEqDiff,Nat.reduceAdd,Nat.reduceSub,Nat.reduceMul,Nat.reduceLeDiff,Int.reduceLT,Int.reduceLE,Int.reduceEq,↓reduceIte,Int.reduceNeg,Int.reduceAdd,Int.reduceSub,Int.reduceMul,true_imp_iff,forall_const,Nat.mul_one,Int.reduceToNat,Nat.reducePow,Int.reducePow,Bool.true_and,Bool.false_and,Bool.and_false,hf,ASt.set_set]
   exact retC_by (by repeat' (first|exact Drop.refl _|with_reducible refine Drop.off ?_ (by assumption))) (.refl _) ⟨rfl,rfl⟩
  rw [if_neg hx0] at hM
  obtain ⟨q,hq⟩:∃ q:Nat,x.toNat / 10000=q:=⟨_,rfl⟩
  have eq:x.tdiv 10000=q:=by rw [Int.tdiv_eq_ediv_of_nonneg (by omega)];omega
  rw [eq] at hM
  have hqb:q<=99999999999999:=by omega
  by_cases hi0:i=0
  ·subst hi0
   rw [if_pos rfl,if_pos (by omega)] at hM
   have e0:((0:Nat):Int)=0:=rfl
   simp (disch:=first|assumption|omega|(simp only [List.length_append,List.length_cons,List.length_nil];omega)) only [go_sem,reduceCtorEq,Nat.reduceEqDiff,Nat.reduceAdd,Nat.reduceSub,Nat.reduceMul,Nat.reduceLeDiff,Int.reduceLT,Int.reduceLE,Int.reduceEq,↓reduceIte,Int.reduceNeg,Int.reduceAdd,Int.reduceSub,Int.reduceMul,true_imp_iff,forall_const,Nat.mul_one,Int.reduceToNat,Nat.reducePow,Int.reducePow,Bool.true_and,Bool.false_and,Bool.and_false,hf,hf5,hlt',hgx,hx0,eq,e0]
   refine ⟨1,by omega,by omega,⟨q,by rw [if_neg (by omega)];exact hM,hqb,rfl⟩,?_⟩
   first|rfl|simp
  have hi0':¬ (i:Int)=0:=by omega
  rw [if_neg hi0,if_neg (by omega)] at hM
  have hgc:=rgcd_ok q n (by omega) (by omega)
  cases g with
  | true=>
    rw [if_pos rfl] at hM
    have e1:((n:Int)).toNat=n:=by omega
    have e2:((q:Int)).toNat=q:=by omega
    rw [e1,e2] at hM
    have hGb:Nat.gcd n q<=99999999999999:=by
     rcases Nat.eq_zero_or_pos n with h|h
     ·rw [h,Nat.gcd_zero_left];exact hqb
     ·exact Nat.le_trans (Nat.gcd_le_left q h) hnb
    generalize Nat.gcd n q=G at *
    simp only [Bool.not_true] at hf
    simp (disch:=first|assumption|omega|(simp only [List.length_append,List.length_cons,List.length_nil];omega)) only [go_sem,reduceCtorEq,Nat.reduceEqDiff,Nat.reduceAdd,Nat.reduceSub,Nat.reduceMul,Nat.reduceLeDiff,Int.reduceLT,Int.reduceLE,Int.reduceEq,↓reduceIte,Int.reduceNeg,Int.reduceAdd,Int.reduceSub,Int.reduceMul,true_imp_iff,forall_const,Nat.mul_one,Int.reduceToNat,Nat.reducePow,Int.reducePow,Bool.true_and,Bool.false_and,Bool.and_false,hf,hf5,hlt',hgx,hx0,eq,hi0']
    refine hgc.use ?_
    simp (disch:=first|assumption|omega|(simp only [List.length_append,List.length_cons,List.length_nil];omega)) only [go_sem,reduceCtorEq,Nat.reduceEqDiff,Nat.reduceAdd,Nat.reduceSub,Nat.reduceMul,Nat.reduceLeDiff,Int.reduceLT,Int.reduceLE,Int.reduceEq,↓reduceIte,Int.reduceNeg,Int.reduceAdd,Int.reduceSub,Int.reduceMul,true_imp_iff,forall_const,Nat.mul_one,Int.reduceToNat,Nat.reducePow,Int.reducePow,Bool.true_and,Bool.false_and,Bool.and_false,hf]
    exact ⟨i+1,by omega,by omega,⟨G,by rw [if_neg (by omega)];exact hM,hGb,rfl⟩,rfl⟩
  | false=>
    rw [if_neg (by simp)] at hM
    simp only [Bool.not_false] at hf
    by_cases hz:(n:Int)=0\/(q:Int)=0
    ·rw [if_pos hz] at hM
     by_cases hz1:(n:Int)=0
     ·simp (disch:=first|assumption|omega|(simp only [List.length_append,List.length_cons,List.length_nil];omega)) only [go_sem,reduceCtorEq,Nat.reduceEqDiff,Nat.reduceAdd,Nat.reduceSub,Nat.reduceMul,Nat.reduceLeDiff,Int.reduceLT,Int.reduceLE,Int.reduceEq,↓reduceIte,Int.reduceNeg,Int.reduceAdd,Int.reduceSub,Int.reduceMul,true_imp_iff,forall_const,Nat.mul_one,Int.reduceToNat,Nat.reducePow,Int.reducePow,Bool.true_and,Bool.false_and,Bool.and_false,hf,hf5,hlt',hgx,hx0,eq,hi0',hz1]
      refine ⟨i+1,by omega,by omega,⟨0,by rw [if_neg (by omega)];exact hM,by omega,rfl⟩,?_⟩
      first|rfl|simp
     ·have hz2:(q:Int)=0:=hz.resolve_left hz1
      simp (disch:=first|assumption|omega|(simp only [List.length_append,List.length_cons,List.length_nil];omega)) only [go_sem,reduceCtorEq,Nat.reduceEqDiff,Nat.reduceAdd,Nat.reduceSub,Nat.reduceMul,Nat.reduceLeDiff,Int.reduceLT,Int.reduceLE,Int.reduceEq,↓reduceIte,Int.reduceNeg,Int.reduceAdd,Int.reduceSub,Int.reduceMul,true_imp_iff,forall_const,Nat.mul_one,Int.reduceToNat,Nat.reducePow,Int.reducePow,Bool.true_and,Bool.false_and,Bool.and_false,hf,hf5,hlt',hgx,hx0,eq,hi0',hz1,hz2]
      refine ⟨i+1,by omega,by omega,⟨0,by rw [if_neg (by omega)];exact hM,by omega,rfl⟩,?_⟩
      first|rfl|simp
    ·rw [if_neg hz] at hM
     have hz1:¬ (n:Int)=0:=fun h=>hz (.inl h)
     have hz2:¬ (q:Int)=0:=fun h=>hz (.inr h)
     have e1:((n:Int)).toNat=n:=by omega
     have e2:((q:Int)).toNat=q:=by omega
     rw [e1,e2] at hM
     have hG0:0<Nat.gcd n q:=Nat.gcd_pos_of_pos_left q (by omega)
     obtain ⟨G,hG⟩:∃ G,Nat.gcd n q=G:=⟨_,rfl⟩
     rw [hG] at hM hG0 hgc
     have e3:(n:Int) / (G:Int)=((n / G:Nat):Int):=rfl
     have e4:(n:Int).tdiv G=((n / G:Nat):Int):=rfl
     have hDb:n / G<=n:=Nat.div_le_self _ _
     rw [e3] at hM
     obtain ⟨D,hD⟩:∃ D,n / G=D:=⟨_,rfl⟩
     rw [hD] at hM e4 hDb
     rw [mul_whole (by omega)] at hM
     have hG0':¬ (G:Int)=0:=by omega
     have hMu:=rmul_ok ((D:Int)*10000) ((q:Int)*10000) (by omega) (by omega)
     cases hr:mulR ((D:Int)*10000) ((q:Int)*10000) with
     | none=>
       rw [hr] at hMu hM
       have:=fail hM.symm
       rw [this] at hX
       rw [hX] at hF
       simp only [resAV,Option.getD_none,Option.isSome_none] at hMu
       simp (disch:=first|assumption|omega|(simp only [List.length_append,List.length_cons,List.length_nil];omega)) only [go_sem,reduceCtorEq,Nat.reduceEqDiff,Nat.reduceAdd,Nat.reduceSub,Nat.reduceMul,Nat.reduceLeDiff,Int.reduceLT,Int.reduceLE,Int.reduceEq,↓reduceIte,Int.reduceNeg,Int.reduceAdd,Int.reduceSub,Int.reduceMul,true_imp_iff,forall_const,Nat.mul_one,Int.reduceToNat,Nat.reducePow,Int.reducePow,Bool.true_and,Bool.false_and,Bool.and_false,hf,hf5,hlt',hgx,hx0,eq,hi0',hz1,hz2]
       refine hgc.use ?_
       simp (disch:=first|assumption|omega|(simp only [List.length_append,List.length_cons,List.length_nil];omega)) only [go_sem,reduceCtorEq,Nat.reduceEqDiff,Nat.reduceAdd,Nat.reduceSub,Nat.reduceMul,Nat.reduceLeDiff,Int.reduceLT,Int.reduceLE,Int.reduceEq,↓reduceIte,Int.reduceNeg,Int.reduceAdd,Int.reduceSub,Int.reduceMul,true_imp_iff,forall_const,Nat.mul_one,Int.reduceToNat,Nat.reducePow,Int.reducePow,Bool.true_and,Bool.false_and,Bool.and_false,hf,hf5,e4,hG0']
       refine hMu.use ?_
       simp (disch:=first|assumption|omega|(simp only [List.length_append,List.length_cons,List.length_nil];omega)) only [go_sem,reduceCtorEq,Nat.reduceEqDiff,Nat.reduceAdd,Nat.reduceSub,Nat.reduceMul,Nat.reduceLeDiff,Int.reduceLT,Int.reduceLE,Int.reduceEq,↓reduceIte,Int.reduceNeg,Int.reduceAdd,Int.reduceSub,Int.reduceMul,true_imp_iff,forall_const,Nat.mul_one,Int.reduceToNat,Nat.reducePow,Int.reducePow,Bool.true_and,Bool.false_and,Bool.and_false,hf]
       refine hF.use ?_
       simp (disch:=first|assumption|omega|(simp only [List.length_append,List.length_cons,List.length_nil];omega)) only [go_sem,reduceCtorEq,Nat.reduceEqDiff,Nat.reduceAdd,Nat.reduceSub,Nat.reduceMul,Nat.reduceLeDiff,Int.reduceLT,Int.reduceLE,Int.reduceEq,↓reduceIte,Int.reduceNeg,Int.reduceAdd,Int.reduceSub,Int.reduceMul,true_imp_iff,forall_const,Nat.mul_one,Int.reduceToNat,Nat.reducePow,Int.reducePow,Bool.true_and,Bool.false_and,Bool.and_false,hf,ASt.set_set]
       exact retC_by (by repeat' (first|exact Drop.refl _|with_reducible refine Drop.off ?_ (by assumption))) (.refl _) ⟨rfl,rfl⟩
     | some m=>
       rw [hr] at hMu hM
       rw [Option.bind_some] at hM
       have hm0:0<=m/\m<=999999999999999999:=by
        obtain ⟨m1,m2⟩:=madeP_some hr
        unfold mulR madeP sgnP at hr
        rw [if_pos m1] at hr
        injection hr with hr
        rw [if_neg (by
         rw [decide_eq_false (show ¬ ((D:Int)*10000<0) by omega),decide_eq_false (show ¬ ((q:Int)*10000<0) by omega)]
         simp)] at hr
        omega
       obtain ⟨u,hu⟩:∃ u:Nat,m.toNat / 10000=u:=⟨_,rfl⟩
       have eu:m.tdiv 10000=u:=by rw [Int.tdiv_eq_ediv_of_nonneg (by omega)];omega
       rw [eu] at hM
       simp only [resAV,Option.getD_some,Option.isSome_some] at hMu
       simp (disch:=first|assumption|omega|(simp only [List.length_append,List.length_cons,List.length_nil];omega)) only [go_sem,reduceCtorEq,Nat.reduceEqDiff,Nat.reduceAdd,Nat.reduceSub,Nat.reduceMul,Nat.reduceLeDiff,Int.reduceLT,Int.reduceLE,Int.reduceEq,↓reduceIte,Int.reduceNeg,Int.reduceAdd,Int.reduceSub,Int.reduceMul,true_imp_iff,forall_const,Nat.mul_one,Int.reduceToNat,Nat.reducePow,Int.reducePow,Bool.true_and,Bool.false_and,Bool.and_false,hf,hf5,hlt',hgx,hx0,eq,hi0',hz1,hz2]
       refine hgc.use ?_
       simp (disch:=first|assumption|omega|(simp only [List.length_append,List.length_cons,List.length_nil];omega)) only [go_sem,reduceCtorEq,Nat.reduceEqDiff,Nat.reduceAdd,Nat.reduceSub,Nat.reduceMul,Nat.reduceLeDiff,Int.reduceLT,Int.reduceLE,Int.reduceEq,↓reduceIte,Int.reduceNeg,Int.reduceAdd,Int.reduceSub,Int.reduceMul,true_imp_iff,forall_const,Nat.mul_one,Int.reduceToNat,Nat.reducePow,Int.reducePow,Bool.true_and,Bool.false_and,Bool.and_false,hf,hf5,e4,hG0']
       refine hMu.use ?_
       simp (disch:=first|assumption|omega|(simp only [List.length_append,List.length_cons,List.length_nil];omega)) only [go_sem,reduceCtorEq,Nat.reduceEqDiff,Nat.reduceAdd,Nat.reduceSub,Nat.reduceMul,Nat.reduceLeDiff,Int.reduceLT,Int.reduceLE,Int.reduceEq,↓reduceIte,Int.reduceNeg,Int.reduceAdd,Int.reduceSub,Int.reduceMul,true_imp_iff,forall_const,Nat.mul_one,Int.reduceToNat,Nat.reducePow,Int.reducePow,Bool.true_and,Bool.false_and,Bool.and_false,hf,eu]
       exact ⟨i+1,by omega,by omega,⟨u,by rw [if_neg (by omega)];exact hM,by omega,rfl⟩,rfl⟩
 ·have hlt':¬ (i:Int)<N.length:=by omega
  rw [List.drop_eq_nil_of_le (by omega),manyS,if_neg (by omega)] at hM
  have hXn:=w1 n hM.symm
  unfold intP at hXn
  rw [if_pos (by omega)] at hXn
  have hNu:=rNum_ok ((n:Int)*10000)
  rw [hXn] at hX
  simp only [cntP] at hX
  rw [hX] at hNu
  simp (disch:=first|assumption|omega|(simp only [List.length_append,List.length_cons,List.length_nil];omega)) only [go_sem,reduceCtorEq,Nat.reduceEqDiff,Nat.reduceAdd,Nat.reduceSub,Nat.reduceMul,Nat.reduceLeDiff,Int.reduceLT,Int.reduceLE,Int.reduceEq,↓reduceIte,Int.reduceNeg,Int.reduceAdd,Int.reduceSub,Int.reduceMul,true_imp_iff,forall_const,Nat.mul_one,Int.reduceToNat,Nat.reducePow,Int.reducePow,Bool.true_and,Bool.false_and,Bool.and_false,hf,hf5,hlt']
  refine hNu.use ?_
  simp (disch:=first|assumption|omega|(simp only [List.length_append,List.length_cons,List.length_nil];omega)) only [go_sem,reduceCtorEq,Nat.reduceEqDiff,Nat.reduceAdd,Nat.reduceSub,Nat.reduceMul,Nat.reduceLeDiff,Int.reduceLT,Int.reduceLE,Int.reduceEq,↓reduceIte,Int.reduceNeg,Int.reduceAdd,Int.reduceSub,Int.reduceMul,true_imp_iff,forall_const,Nat.mul_one,Int.reduceToNat,Nat.reducePow,Int.reducePow,Bool.true_and,Bool.false_and,Bool.and_false,hf,ASt.set_set]
  exact retC_by (by repeat' (first|exact Drop.refl _|with_reducible refine Drop.off ?_ (by assumption))) (.refl _) ⟨rfl,rfl⟩
end Go.A
namespace Go.A
open Go.Proofs Go.Lib
def sgn (a:Int):Int:=if a<0 then -1 else if 0<a then 1 else 0
theorem sgn_rng (a:Int) : -1<=sgn a/\sgn a<=1:=by
 unfold sgn
 split
 ·omega
 ·split<;>omega
def modG (a b:Int):Int:=if a.tmod b≠0/\decide (a.tmod b<0)≠decide (b<0) then a.tmod b+b else a.tmod b
theorem tmod_le {a b:Int} (hb:b≠0):(a.tmod b).natAbs<b.natAbs:=by rw [Int.natAbs_tmod];exact Nat.mod_lt _ (by omega)
theorem dmod_g {a b:Int} (ha:a.natAbs<=999999999999999999) (hb:b.natAbs<=999999999999999999) (hb0:b≠0):Pure Tryz.prog 29 [.int .i64 a,.int .i64 b] (.tuple [.int .i64 (modG a b),.bool true]):=by
 intro σ
 have hlt:=tmod_le (a:=a) hb0
 unfold modG
 generalize hm:a.tmod b=m at *
 refine a29 (by simp) ?_
 by_cases hm0:m=0
 ·rw [if_neg (fun h=>h.1 hm0)]
  simp (disch:=first|assumption|omega|(simp only [List.length_append,List.length_cons,List.length_nil];omega)) only [go_sem,reduceCtorEq,Nat.reduceEqDiff,Nat.reduceAdd,Nat.reduceSub,Nat.reduceMul,Nat.reduceLeDiff,Int.reduceLT,Int.reduceLE,Int.reduceEq,↓reduceIte,Int.reduceNeg,Int.reduceAdd,Int.reduceSub,Int.reduceMul,true_imp_iff,forall_const,Nat.mul_one,Int.reduceToNat,Nat.reducePow,Int.reducePow,Bool.true_and,Bool.false_and,Bool.and_false,hb0,hm,hm0]
  exact retC_by (by repeat' (first|exact Drop.refl _|with_reducible refine Drop.off ?_ (by assumption))) (.refl _) ⟨rfl,rfl⟩
 ·by_cases hs:decide (m<0)=decide (b<0)
  ·rw [if_neg (fun h=>h.2 hs)]
   have hs':(!(decide (m<0)==decide (b<0)))=false:=by rw [hs];simp
   simp (disch:=first|assumption|omega|(simp only [List.length_append,List.length_cons,List.length_nil];omega)) only [go_sem,reduceCtorEq,Nat.reduceEqDiff,Nat.reduceAdd,Nat.reduceSub,Nat.reduceMul,Nat.reduceLeDiff,Int.reduceLT,Int.reduceLE,Int.reduceEq,↓reduceIte,Int.reduceNeg,Int.reduceAdd,Int.reduceSub,Int.reduceMul,true_imp_iff,forall_const,Nat.mul_one,Int.reduceToNat,Nat.reducePow,Int.reducePow,Bool.true_and,Bool.false_and,Bool.and_false,hb0,hm,hm0,hs']
   exact retC_by (by repeat' (first|exact Drop.refl _|with_reducible refine Drop.off ?_ (by assumption))) (.refl _) ⟨rfl,rfl⟩
  ·rw [if_pos ⟨hm0,hs⟩]
   have hs':(!(decide (m<0)==decide (b<0)))=true:=by simpa using hs
   have e:IntKind.i64.wrap (m+b)=m+b:=by rw [IntKind.wrap_i64];omega
   simp (disch:=first|assumption|omega|(simp only [List.length_append,List.length_cons,List.length_nil];omega)) only [go_sem,reduceCtorEq,Nat.reduceEqDiff,Nat.reduceAdd,Nat.reduceSub,Nat.reduceMul,Nat.reduceLeDiff,Int.reduceLT,Int.reduceLE,Int.reduceEq,↓reduceIte,Int.reduceNeg,Int.reduceAdd,Int.reduceSub,Int.reduceMul,true_imp_iff,forall_const,Nat.mul_one,Int.reduceToNat,Nat.reducePow,Int.reducePow,Bool.true_and,Bool.false_and,Bool.and_false,hb0,hm,hm0,hs',e]
   exact retC_by (by repeat' (first|exact Drop.refl _|with_reducible refine Drop.off ?_ (by assumption))) (.refl _) ⟨rfl,rfl⟩
theorem rmod_g {a b:Int} (ha:a.natAbs<=999999999999999999) (hb:b.natAbs<=999999999999999999) (hb0:b≠0):Pure Tryz.prog 49 [.int .i64 a,.int .i64 b] (.int .i64 (modG a b)):=by
 intro σ
 have hlt:=tmod_le (a:=a) hb0
 have hdm:=Int.mul_tdiv_add_tmod a b
 rw [Int.mul_comm] at hdm
 have hqb:(a.tdiv b).natAbs<=a.natAbs:=by rw [Int.natAbs_tdiv];exact Nat.div_le_self _ _
 unfold modG
 generalize hm:a.tmod b=m at *
 generalize hqq:a.tdiv b=q at *
 obtain ⟨Q,hQ⟩:∃ Q,q*b=Q:=⟨_,rfl⟩
 rw [hQ] at hdm
 have e0:IntKind.i64.wrap q=q:=by rw [IntKind.wrap_i64];omega
 have e1:IntKind.i64.wrap Q=Q:=by rw [IntKind.wrap_i64];omega
 have e2:a-Q=m:=by omega
 have e3:IntKind.i64.wrap m=m:=by rw [IntKind.wrap_i64];omega
 have e4:IntKind.i64.wrap (m+b)=m+b:=by rw [IntKind.wrap_i64];omega
 refine a49 (by simp) ?_
 by_cases h1:m<0
 ·by_cases h2:0<b
  ·rw [if_pos ⟨by omega,by rw [decide_eq_true h1,decide_eq_false (by omega)];simp⟩]
   simp (disch:=first|assumption|omega|(simp only [List.length_append,List.length_cons,List.length_nil];omega)) only [go_sem,reduceCtorEq,Nat.reduceEqDiff,Nat.reduceAdd,Nat.reduceSub,Nat.reduceMul,Nat.reduceLeDiff,Int.reduceLT,Int.reduceLE,Int.reduceEq,↓reduceIte,Int.reduceNeg,Int.reduceAdd,Int.reduceSub,Int.reduceMul,true_imp_iff,forall_const,Nat.mul_one,Int.reduceToNat,Nat.reducePow,Int.reducePow,Bool.true_and,Bool.false_and,Bool.and_false,hb0,hqq,hQ,e0,e1,e2,e3,e4,h1,h2]
   exact retC_by (by repeat' (first|exact Drop.refl _|with_reducible refine Drop.off ?_ (by assumption))) (.refl _) ⟨rfl,rfl⟩
  ·rw [if_neg (fun h=>h.2 (by rw [decide_eq_true h1,decide_eq_true (show b<0 by omega)]))]
   have h3:¬ 0<m:=by omega
   simp (disch:=first|assumption|omega|(simp only [List.length_append,List.length_cons,List.length_nil];omega)) only [go_sem,reduceCtorEq,Nat.reduceEqDiff,Nat.reduceAdd,Nat.reduceSub,Nat.reduceMul,Nat.reduceLeDiff,Int.reduceLT,Int.reduceLE,Int.reduceEq,↓reduceIte,Int.reduceNeg,Int.reduceAdd,Int.reduceSub,Int.reduceMul,true_imp_iff,forall_const,Nat.mul_one,Int.reduceToNat,Nat.reducePow,Int.reducePow,Bool.true_and,Bool.false_and,Bool.and_false,hb0,hqq,hQ,e0,e1,e2,e3,h1,h2,h3]
   exact retC_by (by repeat' (first|exact Drop.refl _|with_reducible refine Drop.off ?_ (by assumption))) (.refl _) ⟨rfl,rfl⟩
 ·by_cases h3:0<m
  ·by_cases h2:b<0
   ·rw [if_pos ⟨by omega,by rw [decide_eq_false h1,decide_eq_true h2];simp⟩]
    simp (disch:=first|assumption|omega|(simp only [List.length_append,List.length_cons,List.length_nil];omega)) only [go_sem,reduceCtorEq,Nat.reduceEqDiff,Nat.reduceAdd,Nat.reduceSub,Nat.reduceMul,Nat.reduceLeDiff,Int.reduceLT,Int.reduceLE,Int.reduceEq,↓reduceIte,Int.reduceNeg,Int.reduceAdd,Int.reduceSub,Int.reduceMul,true_imp_iff,forall_const,Nat.mul_one,Int.reduceToNat,Nat.reducePow,Int.reducePow,Bool.true_and,Bool.false_and,Bool.and_false,hb0,hqq,hQ,e0,e1,e2,e3,e4,h1,h2,h3]
    exact retC_by (by repeat' (first|exact Drop.refl _|with_reducible refine Drop.off ?_ (by assumption))) (.refl _) ⟨rfl,rfl⟩
   ·rw [if_neg (fun h=>h.2 (by rw [decide_eq_false h1,decide_eq_false h2]))]
    simp (disch:=first|assumption|omega|(simp only [List.length_append,List.length_cons,List.length_nil];omega)) only [go_sem,reduceCtorEq,Nat.reduceEqDiff,Nat.reduceAdd,Nat.reduceSub,Nat.reduceMul,Nat.reduceLeDiff,Int.reduceLT,Int.reduceLE,Int.reduceEq,↓reduceIte,Int.reduceNeg,Int.reduceAdd,Int.reduceSub,Int.reduceMul,true_imp_iff,forall_const,Nat.mul_one,Int.reduceToNat,Nat.reducePow,Int.reducePow,Bool.true_and,Bool.false_and,Bool.and_false,hb0,hqq,hQ,e0,e1,e2,e3,h1,h2,h3]
    exact retC_by (by repeat' (first|exact Drop.refl _|with_reducible refine Drop.off ?_ (by assumption))) (.refl _) ⟨rfl,rfl⟩
  ·rw [if_neg (fun h=>h.1 (by omega))]
   simp (disch:=first|assumption|omega|(simp only [List.length_append,List.length_cons,List.length_nil];omega)) only [go_sem,reduceCtorEq,Nat.reduceEqDiff,Nat.reduceAdd,Nat.reduceSub,Nat.reduceMul,Nat.reduceLeDiff,Int.reduceLT,Int.reduceLE,Int.reduceEq,↓reduceIte,Int.reduceNeg,Int.reduceAdd,Int.reduceSub,Int.reduceMul,true_imp_iff,forall_const,Nat.mul_one,Int.reduceToNat,Nat.reducePow,Int.reducePow,Bool.true_and,Bool.false_and,Bool.and_false,hb0,hqq,hQ,e0,e1,e2,e3,h1,h3]
   exact retC_by (by repeat' (first|exact Drop.refl _|with_reducible refine Drop.off ?_ (by assumption))) (.refl _) ⟨rfl,rfl⟩
def modV (a b:Int):PV:=if b=0 then .fail 1 else .num (modG a b)
def sqrtV (a:Int):PV:=if a<0 then .fail 2 else .num (rootD (a.toNat*10000):Nat)
def clampV (a b c:Int):PV:=if c<b then .fail 2 else .num (max (min a c) b)
def roundG (a p:Int):Option Int:=if p < -14 then some 0 else if 4<=p then some a else roundP a (10 ^ (4-p).toNat)
theorem round_g {σ:ASt} (hT:Tens σ) {a:Int} (p:Int) (ha:a.natAbs<=999999999999999999):ACalls Tryz.prog 24 [.int .i64 a,.int .i64 p] σ (fun v σ'=>v=resAV (roundG a p)/\σ'=σ):=by
 unfold roundG
 by_cases h1:p < -14
 ·rw [if_pos h1];exact (round_lo h1) σ
 rw [if_neg h1]
 by_cases h2:4<=p
 ·rw [if_pos h2];exact (round_no h2) σ
 rw [if_neg h2]
 exact round_ok hT ha (by omega) (by omega)
theorem rround_g {a:Int} (p:Int) (ha:a.natAbs<=999999999999999999):Pure Tryz.prog 45 [.int .i64 a,.int .i64 p] (resAV (roundG a p)):=by
 unfold roundG
 by_cases h1:p < -14
 ·rw [if_pos h1];exact rround_lo h1
 rw [if_neg h1]
 by_cases h2:4<=p
 ·rw [if_pos h2];exact rround_hi h2
 rw [if_neg h2]
 exact rround_ok ha (by omega) (by omega)
theorem sqrt_no {a:Int} (h:a<0):Pure Tryz.prog 32 [.int .i64 a] (resAV none):=by
 intro σ
 refine a32 (by simp) ?_
 simp only [resAV]
 simp (disch:=first|assumption|omega|(simp only [List.length_append,List.length_cons,List.length_nil];omega)) only [go_sem,reduceCtorEq,Nat.reduceEqDiff,Nat.reduceAdd,Nat.reduceSub,Nat.reduceMul,Nat.reduceLeDiff,Int.reduceLT,Int.reduceLE,Int.reduceEq,↓reduceIte,Int.reduceNeg,Int.reduceAdd,Int.reduceSub,Int.reduceMul,true_imp_iff,forall_const,Nat.mul_one,Int.reduceToNat,Nat.reducePow,Int.reducePow,Bool.true_and,Bool.false_and,Bool.and_false,h]
 exact retC_by (by repeat' (first|exact Drop.refl _|with_reducible refine Drop.off ?_ (by assumption))) (.refl _) ⟨rfl,rfl⟩
set_option maxHeartbeats 1000000 in
theorem mk_ABS {σ:ASt} (hT:Tens σ) {a:Int} {T:List Int} (hl:T.length<=900) (ha:a.natAbs<=999999999999999999) (hT1:(secP (a::T) 0).natAbs<=999999999999999999) (hT2:(secP (a::T) 10000).natAbs<=999999999999999999):∀ (a1:AFr),(a1 0 = .str sABS/\a1 7 = .sl .shr ((a::T).map (AV.int .i64)))->ACode.wp Tryz.prog c10_123 (RetQ [.t 4] fun v σ'=>v=(PV.num (a.natAbs:Nat)).av/\σ'=σ) a1 σ:=by
 intro a1 hf
 have hX:=abs_ok a (by omega) (by omega)
 obtain ⟨s,hs⟩:∃ s,sABS=s:=⟨_,rfl⟩
 have n0:(s = [65,66,83])=True:=eq_true (by rw [<-hs];decide)
 have n1:(s = [83,73,71,78])=False:=eq_false (by rw [<-hs];decide)
 have n2:(s = [73,78,84])=False:=eq_false (by rw [<-hs];decide)
 have n3:(s = [84,82,85,78,67])=False:=eq_false (by rw [<-hs];decide)
 have n4:(s = [82,79,85,78,68,68,79,87,78])=False:=eq_false (by rw [<-hs];decide)
 have n5:(s = [82,79,85,78,68])=False:=eq_false (by rw [<-hs];decide)
 have n6:(s = [82,79,85,78,68,85,80])=False:=eq_false (by rw [<-hs];decide)
 have n7:(s = [70,76,79,79,82])=False:=eq_false (by rw [<-hs];decide)
 have n8:(s = [67,69,73,76,73,78,71])=False:=eq_false (by rw [<-hs];decide)
 have n9:(s = [77,82,79,85,78,68])=False:=eq_false (by rw [<-hs];decide)
 have n10:(s = [77,79,68])=False:=eq_false (by rw [<-hs];decide)
 have n11:(s = [81,85,79,84,73,69,78,84])=False:=eq_false (by rw [<-hs];decide)
 have n12:(s = [80,79,87,69,82])=False:=eq_false (by rw [<-hs];decide)
 have n13:(s = [83,81,82,84])=False:=eq_false (by rw [<-hs];decide)
 have n14:(s = [70,65,67,84])=False:=eq_false (by rw [<-hs];decide)
 have n15:(s = [69,86,69,78])=False:=eq_false (by rw [<-hs];decide)
 have n16:(s = [79,68,68])=False:=eq_false (by rw [<-hs];decide)
 have n17:(s = [67,76,65,77,80])=False:=eq_false (by rw [<-hs];decide)
 have n18:(s = [71,67,68])=False:=eq_false (by rw [<-hs];decide)
 have n19:(s = [76,67,77])=False:=eq_false (by rw [<-hs];decide)
 rw [hs] at hf
 simp only [List.map_cons] at hf
 simp only [PV.av]
 simp (disch:=first|assumption|omega|(simp only [List.length_append,List.length_cons,List.length_nil];omega)) only [go_sem,reduceCtorEq,Nat.reduceEqDiff,Nat.reduceAdd,Nat.reduceSub,Nat.reduceMul,Nat.reduceLeDiff,Int.reduceLT,Int.reduceLE,Int.reduceEq,↓reduceIte,Int.reduceNeg,Int.reduceAdd,Int.reduceSub,Int.reduceMul,true_imp_iff,forall_const,Nat.mul_one,Int.reduceToNat,Nat.reducePow,Int.reducePow,Bool.true_and,Bool.false_and,Bool.and_false,hf,n0,n1,n2,n3,n4,n5,n6,n7,n8,n9,n10,n11,n12,n13,n14,n15,n16,n17,n18,n19]
 refine hX.use ?_
 simp (disch:=first|assumption|omega|(simp only [List.length_append,List.length_cons,List.length_nil];omega)) only [go_sem,reduceCtorEq,Nat.reduceEqDiff,Nat.reduceAdd,Nat.reduceSub,Nat.reduceMul,Nat.reduceLeDiff,Int.reduceLT,Int.reduceLE,Int.reduceEq,↓reduceIte,Int.reduceNeg,Int.reduceAdd,Int.reduceSub,Int.reduceMul,true_imp_iff,forall_const,Nat.mul_one,Int.reduceToNat,Nat.reducePow,Int.reducePow,Bool.true_and,Bool.false_and,Bool.and_false,hf,n0,n1,n2,n3,n4,n5,n6,n7,n8,n9,n10,n11,n12,n13,n14,n15,n16,n17,n18,n19]
 exact retC_by (by repeat' (first|exact Drop.refl _|with_reducible refine Drop.off ?_ (by assumption))) (.refl _) ⟨rfl,rfl⟩
set_option maxHeartbeats 1000000 in
theorem mk_SIGN {σ:ASt} (hT:Tens σ) {a:Int} {T:List Int} (hl:T.length<=900) (ha:a.natAbs<=999999999999999999) (hT1:(secP (a::T) 0).natAbs<=999999999999999999) (hT2:(secP (a::T) 10000).natAbs<=999999999999999999):∀ (a1:AFr),(a1 0 = .str sSIGN/\a1 7 = .sl .shr ((a::T).map (AV.int .i64)))->ACode.wp Tryz.prog c10_123 (RetQ [.t 4] fun v σ'=>v=(PV.num (sgn a*10000)).av/\σ'=σ) a1 σ:=by
 intro a1 hf
 have hX:=dsign_ok a
 have hg:=sgn_rng a
 change Pure _ _ _ (.int .i64 (sgn a)) at hX
 generalize sgn a=g at *
 obtain ⟨s,hs⟩:∃ s,sSIGN=s:=⟨_,rfl⟩
 have n0:(s = [65,66,83])=False:=eq_false (by rw [<-hs];decide)
 have n1:(s = [83,73,71,78])=True:=eq_true (by rw [<-hs];decide)
 have n2:(s = [73,78,84])=False:=eq_false (by rw [<-hs];decide)
 have n3:(s = [84,82,85,78,67])=False:=eq_false (by rw [<-hs];decide)
 have n4:(s = [82,79,85,78,68,68,79,87,78])=False:=eq_false (by rw [<-hs];decide)
 have n5:(s = [82,79,85,78,68])=False:=eq_false (by rw [<-hs];decide)
 have n6:(s = [82,79,85,78,68,85,80])=False:=eq_false (by rw [<-hs];decide)
 have n7:(s = [70,76,79,79,82])=False:=eq_false (by rw [<-hs];decide)
 have n8:(s = [67,69,73,76,73,78,71])=False:=eq_false (by rw [<-hs];decide)
 have n9:(s = [77,82,79,85,78,68])=False:=eq_false (by rw [<-hs];decide)
 have n10:(s = [77,79,68])=False:=eq_false (by rw [<-hs];decide)
 have n11:(s = [81,85,79,84,73,69,78,84])=False:=eq_false (by rw [<-hs];decide)
 have n12:(s = [80,79,87,69,82])=False:=eq_false (by rw [<-hs];decide)
 have n13:(s = [83,81,82,84])=False:=eq_false (by rw [<-hs];decide)
 have n14:(s = [70,65,67,84])=False:=eq_false (by rw [<-hs];decide)
 have n15:(s = [69,86,69,78])=False:=eq_false (by rw [<-hs];decide)
 have n16:(s = [79,68,68])=False:=eq_false (by rw [<-hs];decide)
 have n17:(s = [67,76,65,77,80])=False:=eq_false (by rw [<-hs];decide)
 have n18:(s = [71,67,68])=False:=eq_false (by rw [<-hs];decide)
 have n19:(s = [76,67,77])=False:=eq_false (by rw [<-hs];decide)
 rw [hs] at hf
 simp only [List.map_cons] at hf
 simp only [PV.av]
 simp (disch:=first|assumption|omega|(simp only [List.length_append,List.length_cons,List.length_nil];omega)) only [go_sem,reduceCtorEq,Nat.reduceEqDiff,Nat.reduceAdd,Nat.reduceSub,Nat.reduceMul,Nat.reduceLeDiff,Int.reduceLT,Int.reduceLE,Int.reduceEq,↓reduceIte,Int.reduceNeg,Int.reduceAdd,Int.reduceSub,Int.reduceMul,true_imp_iff,forall_const,Nat.mul_one,Int.reduceToNat,Nat.reducePow,Int.reducePow,Bool.true_and,Bool.false_and,Bool.and_false,hf,n0,n1,n2,n3,n4,n5,n6,n7,n8,n9,n10,n11,n12,n13,n14,n15,n16,n17,n18,n19]
 refine hX.use ?_
 simp (disch:=first|assumption|omega|(simp only [List.length_append,List.length_cons,List.length_nil];omega)) only [go_sem,reduceCtorEq,Nat.reduceEqDiff,Nat.reduceAdd,Nat.reduceSub,Nat.reduceMul,Nat.reduceLeDiff,Int.reduceLT,Int.reduceLE,Int.reduceEq,↓reduceIte,Int.reduceNeg,Int.reduceAdd,Int.reduceSub,Int.reduceMul,true_imp_iff,forall_const,Nat.mul_one,Int.reduceToNat,Nat.reducePow,Int.reducePow,Bool.true_and,Bool.false_and,Bool.and_false,hf,n0,n1,n2,n3,n4,n5,n6,n7,n8,n9,n10,n11,n12,n13,n14,n15,n16,n17,n18,n19]
 exact retC_by (by repeat' (first|exact Drop.refl _|with_reducible refine Drop.off ?_ (by assumption))) (.refl _) ⟨rfl,rfl⟩
set_option maxHeartbeats 1000000 in
theorem mk_INT {σ:ASt} (hT:Tens σ) {a:Int} {T:List Int} (hl:T.length<=900) (ha:a.natAbs<=999999999999999999) (hT1:(secP (a::T) 0).natAbs<=999999999999999999) (hT2:(secP (a::T) 10000).natAbs<=999999999999999999):∀ (a1:AFr),(a1 0 = .str sINT/\a1 7 = .sl .shr ((a::T).map (AV.int .i64)))->ACode.wp Tryz.prog c10_123 (RetQ [.t 4] fun v σ'=>v=(cntP (fitP (a-a % 10000))).av/\σ'=σ) a1 σ:=by
 intro a1 hf
 have hX:=floor_ok ha (show (0:Int)<10000 by omega) (by omega)
 have hC:=counted_ok (fitP (a-a % 10000))
 simp only [resAV] at hX
 generalize (cntP (fitP (a-a % 10000))).av=V at *
 generalize fitP (a-a % 10000)=D at *
 obtain ⟨s,hs⟩:∃ s,sINT=s:=⟨_,rfl⟩
 have n0:(s = [65,66,83])=False:=eq_false (by rw [<-hs];decide)
 have n1:(s = [83,73,71,78])=False:=eq_false (by rw [<-hs];decide)
 have n2:(s = [73,78,84])=True:=eq_true (by rw [<-hs];decide)
 have n3:(s = [84,82,85,78,67])=False:=eq_false (by rw [<-hs];decide)
 have n4:(s = [82,79,85,78,68,68,79,87,78])=False:=eq_false (by rw [<-hs];decide)
 have n5:(s = [82,79,85,78,68])=False:=eq_false (by rw [<-hs];decide)
 have n6:(s = [82,79,85,78,68,85,80])=False:=eq_false (by rw [<-hs];decide)
 have n7:(s = [70,76,79,79,82])=False:=eq_false (by rw [<-hs];decide)
 have n8:(s = [67,69,73,76,73,78,71])=False:=eq_false (by rw [<-hs];decide)
 have n9:(s = [77,82,79,85,78,68])=False:=eq_false (by rw [<-hs];decide)
 have n10:(s = [77,79,68])=False:=eq_false (by rw [<-hs];decide)
 have n11:(s = [81,85,79,84,73,69,78,84])=False:=eq_false (by rw [<-hs];decide)
 have n12:(s = [80,79,87,69,82])=False:=eq_false (by rw [<-hs];decide)
 have n13:(s = [83,81,82,84])=False:=eq_false (by rw [<-hs];decide)
 have n14:(s = [70,65,67,84])=False:=eq_false (by rw [<-hs];decide)
 have n15:(s = [69,86,69,78])=False:=eq_false (by rw [<-hs];decide)
 have n16:(s = [79,68,68])=False:=eq_false (by rw [<-hs];decide)
 have n17:(s = [67,76,65,77,80])=False:=eq_false (by rw [<-hs];decide)
 have n18:(s = [71,67,68])=False:=eq_false (by rw [<-hs];decide)
 have n19:(s = [76,67,77])=False:=eq_false (by rw [<-hs];decide)
 rw [hs] at hf
 simp only [List.map_cons] at hf
 simp (disch:=first|assumption|omega|(simp only [List.length_append,List.length_cons,List.length_nil];omega)) only [go_sem,reduceCtorEq,Nat.reduceEqDiff,Nat.reduceAdd,Nat.reduceSub,Nat.reduceMul,Nat.reduceLeDiff,Int.reduceLT,Int.reduceLE,Int.reduceEq,↓reduceIte,Int.reduceNeg,Int.reduceAdd,Int.reduceSub,Int.reduceMul,true_imp_iff,forall_const,Nat.mul_one,Int.reduceToNat,Nat.reducePow,Int.reducePow,Bool.true_and,Bool.false_and,Bool.and_false,hf,n0,n1,n2,n3,n4,n5,n6,n7,n8,n9,n10,n11,n12,n13,n14,n15,n16,n17,n18,n19]
 refine hX.use ?_
 simp (disch:=first|assumption|omega|(simp only [List.length_append,List.length_cons,List.length_nil];omega)) only [go_sem,reduceCtorEq,Nat.reduceEqDiff,Nat.reduceAdd,Nat.reduceSub,Nat.reduceMul,Nat.reduceLeDiff,Int.reduceLT,Int.reduceLE,Int.reduceEq,↓reduceIte,Int.reduceNeg,Int.reduceAdd,Int.reduceSub,Int.reduceMul,true_imp_iff,forall_const,Nat.mul_one,Int.reduceToNat,Nat.reducePow,Int.reducePow,Bool.true_and,Bool.false_and,Bool.and_false,hf,n0,n1,n2,n3,n4,n5,n6,n7,n8,n9,n10,n11,n12,n13,n14,n15,n16,n17,n18,n19]
 refine hC.use ?_
 simp (disch:=first|assumption|omega|(simp only [List.length_append,List.length_cons,List.length_nil];omega)) only [go_sem,reduceCtorEq,Nat.reduceEqDiff,Nat.reduceAdd,Nat.reduceSub,Nat.reduceMul,Nat.reduceLeDiff,Int.reduceLT,Int.reduceLE,Int.reduceEq,↓reduceIte,Int.reduceNeg,Int.reduceAdd,Int.reduceSub,Int.reduceMul,true_imp_iff,forall_const,Nat.mul_one,Int.reduceToNat,Nat.reducePow,Int.reducePow,Bool.true_and,Bool.false_and,Bool.and_false,hf,n0,n1,n2,n3,n4,n5,n6,n7,n8,n9,n10,n11,n12,n13,n14,n15,n16,n17,n18,n19]
 exact retC_by (by repeat' (first|exact Drop.refl _|with_reducible refine Drop.off ?_ (by assumption))) (.refl _) ⟨rfl,rfl⟩
set_option maxHeartbeats 1000000 in
theorem mk_TRUNC {σ:ASt} (hT:Tens σ) {a:Int} {T:List Int} (hl:T.length<=900) (ha:a.natAbs<=999999999999999999) (hT1:(secP (a::T) 0).natAbs<=999999999999999999) (hT2:(secP (a::T) 10000).natAbs<=999999999999999999):∀ (a1:AFr),(a1 0 = .str sTRUNC/\a1 7 = .sl .shr ((a::T).map (AV.int .i64)))->ACode.wp Tryz.prog c10_123 (RetQ [.t 4] fun v σ'=>v=(PV.num (truncG a (placesM (a::T)))).av/\σ'=σ) a1 σ:=by
 intro a1 hf
 have hP:=places_ok (a::T) (by simp;omega) hT1
 have hX:=trunc_g hT (placesM (a::T)) ha
 obtain ⟨s,hs⟩:∃ s,sTRUNC=s:=⟨_,rfl⟩
 have n0:(s = [65,66,83])=False:=eq_false (by rw [<-hs];decide)
 have n1:(s = [83,73,71,78])=False:=eq_false (by rw [<-hs];decide)
 have n2:(s = [73,78,84])=False:=eq_false (by rw [<-hs];decide)
 have n3:(s = [84,82,85,78,67])=True:=eq_true (by rw [<-hs];decide)
 have n4:(s = [82,79,85,78,68,68,79,87,78])=False:=eq_false (by rw [<-hs];decide)
 have n5:(s = [82,79,85,78,68])=False:=eq_false (by rw [<-hs];decide)
 have n6:(s = [82,79,85,78,68,85,80])=False:=eq_false (by rw [<-hs];decide)
 have n7:(s = [70,76,79,79,82])=False:=eq_false (by rw [<-hs];decide)
 have n8:(s = [67,69,73,76,73,78,71])=False:=eq_false (by rw [<-hs];decide)
 have n9:(s = [77,82,79,85,78,68])=False:=eq_false (by rw [<-hs];decide)
 have n10:(s = [77,79,68])=False:=eq_false (by rw [<-hs];decide)
 have n11:(s = [81,85,79,84,73,69,78,84])=False:=eq_false (by rw [<-hs];decide)
 have n12:(s = [80,79,87,69,82])=False:=eq_false (by rw [<-hs];decide)
 have n13:(s = [83,81,82,84])=False:=eq_false (by rw [<-hs];decide)
 have n14:(s = [70,65,67,84])=False:=eq_false (by rw [<-hs];decide)
 have n15:(s = [69,86,69,78])=False:=eq_false (by rw [<-hs];decide)
 have n16:(s = [79,68,68])=False:=eq_false (by rw [<-hs];decide)
 have n17:(s = [67,76,65,77,80])=False:=eq_false (by rw [<-hs];decide)
 have n18:(s = [71,67,68])=False:=eq_false (by rw [<-hs];decide)
 have n19:(s = [76,67,77])=False:=eq_false (by rw [<-hs];decide)
 rw [hs] at hf
 simp only [List.map_cons] at hf
 simp only [List.map_cons] at hP
 simp only [PV.av]
 generalize truncG a (placesM (a::T))=t at *
 generalize placesM (a::T)=p at *
 simp (disch:=first|assumption|omega|(simp only [List.length_append,List.length_cons,List.length_nil];omega)) only [go_sem,reduceCtorEq,Nat.reduceEqDiff,Nat.reduceAdd,Nat.reduceSub,Nat.reduceMul,Nat.reduceLeDiff,Int.reduceLT,Int.reduceLE,Int.reduceEq,↓reduceIte,Int.reduceNeg,Int.reduceAdd,Int.reduceSub,Int.reduceMul,true_imp_iff,forall_const,Nat.mul_one,Int.reduceToNat,Nat.reducePow,Int.reducePow,Bool.true_and,Bool.false_and,Bool.and_false,hf,n0,n1,n2,n3,n4,n5,n6,n7,n8,n9,n10,n11,n12,n13,n14,n15,n16,n17,n18,n19]
 refine hP.use ?_
 simp (disch:=first|assumption|omega|(simp only [List.length_append,List.length_cons,List.length_nil];omega)) only [go_sem,reduceCtorEq,Nat.reduceEqDiff,Nat.reduceAdd,Nat.reduceSub,Nat.reduceMul,Nat.reduceLeDiff,Int.reduceLT,Int.reduceLE,Int.reduceEq,↓reduceIte,Int.reduceNeg,Int.reduceAdd,Int.reduceSub,Int.reduceMul,true_imp_iff,forall_const,Nat.mul_one,Int.reduceToNat,Nat.reducePow,Int.reducePow,Bool.true_and,Bool.false_and,Bool.and_false,hf,n0,n1,n2,n3,n4,n5,n6,n7,n8,n9,n10,n11,n12,n13,n14,n15,n16,n17,n18,n19]
 refine hX.mono ?_
 rintro v σ' ⟨rfl,rfl⟩
 simp (disch:=first|assumption|omega|(simp only [List.length_append,List.length_cons,List.length_nil];omega)) only [go_sem,reduceCtorEq,Nat.reduceEqDiff,Nat.reduceAdd,Nat.reduceSub,Nat.reduceMul,Nat.reduceLeDiff,Int.reduceLT,Int.reduceLE,Int.reduceEq,↓reduceIte,Int.reduceNeg,Int.reduceAdd,Int.reduceSub,Int.reduceMul,true_imp_iff,forall_const,Nat.mul_one,Int.reduceToNat,Nat.reducePow,Int.reducePow,Bool.true_and,Bool.false_and,Bool.and_false]
 exact retC_by (by repeat' (first|exact Drop.refl _|with_reducible refine Drop.off ?_ (by assumption))) (.refl _) ⟨rfl,rfl⟩
set_option maxHeartbeats 1000000 in
theorem mk_DOWN {σ:ASt} (hT:Tens σ) {a:Int} {T:List Int} (hl:T.length<=900) (ha:a.natAbs<=999999999999999999) (hT1:(secP (a::T) 0).natAbs<=999999999999999999) (hT2:(secP (a::T) 10000).natAbs<=999999999999999999):∀ (a1:AFr),(a1 0 = .str sDOWN/\a1 7 = .sl .shr ((a::T).map (AV.int .i64)))->ACode.wp Tryz.prog c10_123 (RetQ [.t 4] fun v σ'=>v=(PV.num (truncG a (placesM (a::T)))).av/\σ'=σ) a1 σ:=by
 intro a1 hf
 have hP:=places_ok (a::T) (by simp;omega) hT1
 have hX:=trunc_g hT (placesM (a::T)) ha
 obtain ⟨s,hs⟩:∃ s,sDOWN=s:=⟨_,rfl⟩
 have n0:(s = [65,66,83])=False:=eq_false (by rw [<-hs];decide)
 have n1:(s = [83,73,71,78])=False:=eq_false (by rw [<-hs];decide)
 have n2:(s = [73,78,84])=False:=eq_false (by rw [<-hs];decide)
 have n3:(s = [84,82,85,78,67])=False:=eq_false (by rw [<-hs];decide)
 have n4:(s = [82,79,85,78,68,68,79,87,78])=True:=eq_true (by rw [<-hs];decide)
 have n5:(s = [82,79,85,78,68])=False:=eq_false (by rw [<-hs];decide)
 have n6:(s = [82,79,85,78,68,85,80])=False:=eq_false (by rw [<-hs];decide)
 have n7:(s = [70,76,79,79,82])=False:=eq_false (by rw [<-hs];decide)
 have n8:(s = [67,69,73,76,73,78,71])=False:=eq_false (by rw [<-hs];decide)
 have n9:(s = [77,82,79,85,78,68])=False:=eq_false (by rw [<-hs];decide)
 have n10:(s = [77,79,68])=False:=eq_false (by rw [<-hs];decide)
 have n11:(s = [81,85,79,84,73,69,78,84])=False:=eq_false (by rw [<-hs];decide)
 have n12:(s = [80,79,87,69,82])=False:=eq_false (by rw [<-hs];decide)
 have n13:(s = [83,81,82,84])=False:=eq_false (by rw [<-hs];decide)
 have n14:(s = [70,65,67,84])=False:=eq_false (by rw [<-hs];decide)
 have n15:(s = [69,86,69,78])=False:=eq_false (by rw [<-hs];decide)
 have n16:(s = [79,68,68])=False:=eq_false (by rw [<-hs];decide)
 have n17:(s = [67,76,65,77,80])=False:=eq_false (by rw [<-hs];decide)
 have n18:(s = [71,67,68])=False:=eq_false (by rw [<-hs];decide)
 have n19:(s = [76,67,77])=False:=eq_false (by rw [<-hs];decide)
 rw [hs] at hf
 simp only [List.map_cons] at hf
 simp only [List.map_cons] at hP
 simp only [PV.av]
 generalize truncG a (placesM (a::T))=t at *
 generalize placesM (a::T)=p at *
 simp (disch:=first|assumption|omega|(simp only [List.length_append,List.length_cons,List.length_nil];omega)) only [go_sem,reduceCtorEq,Nat.reduceEqDiff,Nat.reduceAdd,Nat.reduceSub,Nat.reduceMul,Nat.reduceLeDiff,Int.reduceLT,Int.reduceLE,Int.reduceEq,↓reduceIte,Int.reduceNeg,Int.reduceAdd,Int.reduceSub,Int.reduceMul,true_imp_iff,forall_const,Nat.mul_one,Int.reduceToNat,Nat.reducePow,Int.reducePow,Bool.true_and,Bool.false_and,Bool.and_false,hf,n0,n1,n2,n3,n4,n5,n6,n7,n8,n9,n10,n11,n12,n13,n14,n15,n16,n17,n18,n19]
 refine hP.use ?_
 simp (disch:=first|assumption|omega|(simp only [List.length_append,List.length_cons,List.length_nil];omega)) only [go_sem,reduceCtorEq,Nat.reduceEqDiff,Nat.reduceAdd,Nat.reduceSub,Nat.reduceMul,Nat.reduceLeDiff,Int.reduceLT,Int.reduceLE,Int.reduceEq,↓reduceIte,Int.reduceNeg,Int.reduceAdd,Int.reduceSub,Int.reduceMul,true_imp_iff,forall_const,Nat.mul_one,Int.reduceToNat,Nat.reducePow,Int.reducePow,Bool.true_and,Bool.false_and,Bool.and_false,hf,n0,n1,n2,n3,n4,n5,n6,n7,n8,n9,n10,n11,n12,n13,n14,n15,n16,n17,n18,n19]
 refine hX.mono ?_
 rintro v σ' ⟨rfl,rfl⟩
 simp (disch:=first|assumption|omega|(simp only [List.length_append,List.length_cons,List.length_nil];omega)) only [go_sem,reduceCtorEq,Nat.reduceEqDiff,Nat.reduceAdd,Nat.reduceSub,Nat.reduceMul,Nat.reduceLeDiff,Int.reduceLT,Int.reduceLE,Int.reduceEq,↓reduceIte,Int.reduceNeg,Int.reduceAdd,Int.reduceSub,Int.reduceMul,true_imp_iff,forall_const,Nat.mul_one,Int.reduceToNat,Nat.reducePow,Int.reducePow,Bool.true_and,Bool.false_and,Bool.and_false]
 exact retC_by (by repeat' (first|exact Drop.refl _|with_reducible refine Drop.off ?_ (by assumption))) (.refl _) ⟨rfl,rfl⟩
set_option maxHeartbeats 1000000 in
theorem mk_ROUND {σ:ASt} (hT:Tens σ) {a:Int} {T:List Int} (hl:T.length<=900) (ha:a.natAbs<=999999999999999999) (hT1:(secP (a::T) 0).natAbs<=999999999999999999) (hT2:(secP (a::T) 10000).natAbs<=999999999999999999):∀ (a1:AFr),(a1 0 = .str sROUND/\a1 7 = .sl .shr ((a::T).map (AV.int .i64)))->ACode.wp Tryz.prog c10_123 (RetQ [.t 4] fun v σ'=>v=(cntP (roundG a (placesM (a::T)))).av/\σ'=σ) a1 σ:=by
 intro a1 hf
 have hP:=places_ok (a::T) (by simp;omega) hT1
 have hX:=round_g hT (placesM (a::T)) ha
 have hC:=counted_ok (roundG a (placesM (a::T)))
 simp only [resAV] at hX
 generalize (cntP (roundG a (placesM (a::T)))).av=V at *
 obtain ⟨s,hs⟩:∃ s,sROUND=s:=⟨_,rfl⟩
 have n0:(s = [65,66,83])=False:=eq_false (by rw [<-hs];decide)
 have n1:(s = [83,73,71,78])=False:=eq_false (by rw [<-hs];decide)
 have n2:(s = [73,78,84])=False:=eq_false (by rw [<-hs];decide)
 have n3:(s = [84,82,85,78,67])=False:=eq_false (by rw [<-hs];decide)
 have n4:(s = [82,79,85,78,68,68,79,87,78])=False:=eq_false (by rw [<-hs];decide)
 have n5:(s = [82,79,85,78,68])=True:=eq_true (by rw [<-hs];decide)
 have n6:(s = [82,79,85,78,68,85,80])=False:=eq_false (by rw [<-hs];decide)
 have n7:(s = [70,76,79,79,82])=False:=eq_false (by rw [<-hs];decide)
 have n8:(s = [67,69,73,76,73,78,71])=False:=eq_false (by rw [<-hs];decide)
 have n9:(s = [77,82,79,85,78,68])=False:=eq_false (by rw [<-hs];decide)
 have n10:(s = [77,79,68])=False:=eq_false (by rw [<-hs];decide)
 have n11:(s = [81,85,79,84,73,69,78,84])=False:=eq_false (by rw [<-hs];decide)
 have n12:(s = [80,79,87,69,82])=False:=eq_false (by rw [<-hs];decide)
 have n13:(s = [83,81,82,84])=False:=eq_false (by rw [<-hs];decide)
 have n14:(s = [70,65,67,84])=False:=eq_false (by rw [<-hs];decide)
 have n15:(s = [69,86,69,78])=False:=eq_false (by rw [<-hs];decide)
 have n16:(s = [79,68,68])=False:=eq_false (by rw [<-hs];decide)
 have n17:(s = [67,76,65,77,80])=False:=eq_false (by rw [<-hs];decide)
 have n18:(s = [71,67,68])=False:=eq_false (by rw [<-hs];decide)
 have n19:(s = [76,67,77])=False:=eq_false (by rw [<-hs];decide)
 rw [hs] at hf
 simp only [List.map_cons] at hf
 simp only [List.map_cons] at hP
 generalize roundG a (placesM (a::T))=D at *
 generalize placesM (a::T)=p at *
 simp (disch:=first|assumption|omega|(simp only [List.length_append,List.length_cons,List.length_nil];omega)) only [go_sem,reduceCtorEq,Nat.reduceEqDiff,Nat.reduceAdd,Nat.reduceSub,Nat.reduceMul,Nat.reduceLeDiff,Int.reduceLT,Int.reduceLE,Int.reduceEq,↓reduceIte,Int.reduceNeg,Int.reduceAdd,Int.reduceSub,Int.reduceMul,true_imp_iff,forall_const,Nat.mul_one,Int.reduceToNat,Nat.reducePow,Int.reducePow,Bool.true_and,Bool.false_and,Bool.and_false,hf,n0,n1,n2,n3,n4,n5,n6,n7,n8,n9,n10,n11,n12,n13,n14,n15,n16,n17,n18,n19]
 refine hP.use ?_
 simp (disch:=first|assumption|omega|(simp only [List.length_append,List.length_cons,List.length_nil];omega)) only [go_sem,reduceCtorEq,Nat.reduceEqDiff,Nat.reduceAdd,Nat.reduceSub,Nat.reduceMul,Nat.reduceLeDiff,Int.reduceLT,Int.reduceLE,Int.reduceEq,↓reduceIte,Int.reduceNeg,Int.reduceAdd,Int.reduceSub,Int.reduceMul,true_imp_iff,forall_const,Nat.mul_one,Int.reduceToNat,Nat.reducePow,Int.reducePow,Bool.true_and,Bool.false_and,Bool.and_false,hf,n0,n1,n2,n3,n4,n5,n6,n7,n8,n9,n10,n11,n12,n13,n14,n15,n16,n17,n18,n19]
 refine hX.mono ?_
 rintro v σ' ⟨rfl,rfl⟩
 simp (disch:=first|assumption|omega|(simp only [List.length_append,List.length_cons,List.length_nil];omega)) only [go_sem,reduceCtorEq,Nat.reduceEqDiff,Nat.reduceAdd,Nat.reduceSub,Nat.reduceMul,Nat.reduceLeDiff,Int.reduceLT,Int.reduceLE,Int.reduceEq,↓reduceIte,Int.reduceNeg,Int.reduceAdd,Int.reduceSub,Int.reduceMul,true_imp_iff,forall_const,Nat.mul_one,Int.reduceToNat,Nat.reducePow,Int.reducePow,Bool.true_and,Bool.false_and,Bool.and_false]
 refine hC.use ?_
 simp (disch:=first|assumption|omega|(simp only [List.length_append,List.length_cons,List.length_nil];omega)) only [go_sem,reduceCtorEq,Nat.reduceEqDiff,Nat.reduceAdd,Nat.reduceSub,Nat.reduceMul,Nat.reduceLeDiff,Int.reduceLT,Int.reduceLE,Int.reduceEq,↓reduceIte,Int.reduceNeg,Int.reduceAdd,Int.reduceSub,Int.reduceMul,true_imp_iff,forall_const,Nat.mul_one,Int.reduceToNat,Nat.reducePow,Int.reducePow,Bool.true_and,Bool.false_and,Bool.and_false]
 exact retC_by (by repeat' (first|exact Drop.refl _|with_reducible refine Drop.off ?_ (by assumption))) (.refl _) ⟨rfl,rfl⟩
set_option maxHeartbeats 1000000 in
theorem mk_UP {σ:ASt} (hT:Tens σ) {a:Int} {T:List Int} (hl:T.length<=900) (ha:a.natAbs<=999999999999999999) (hT1:(secP (a::T) 0).natAbs<=999999999999999999) (hT2:(secP (a::T) 10000).natAbs<=999999999999999999):∀ (a1:AFr),(a1 0 = .str sUP/\a1 7 = .sl .shr ((a::T).map (AV.int .i64)))->ACode.wp Tryz.prog c10_123 (RetQ [.t 4] fun v σ'=>v=(awayP a (placesM (a::T))).av/\σ'=σ) a1 σ:=by
 intro a1 hf
 have hP:=places_ok (a::T) (by simp;omega) hT1
 have hpl : -20<=placesM (a::T)/\placesM (a::T)<=20:=by unfold placesM;omega
 have hX:=away_ok hT ha hpl.1 hpl.2
 generalize (awayP a (placesM (a::T))).av=V at *
 obtain ⟨s,hs⟩:∃ s,sUP=s:=⟨_,rfl⟩
 have n0:(s = [65,66,83])=False:=eq_false (by rw [<-hs];decide)
 have n1:(s = [83,73,71,78])=False:=eq_false (by rw [<-hs];decide)
 have n2:(s = [73,78,84])=False:=eq_false (by rw [<-hs];decide)
 have n3:(s = [84,82,85,78,67])=False:=eq_false (by rw [<-hs];decide)
 have n4:(s = [82,79,85,78,68,68,79,87,78])=False:=eq_false (by rw [<-hs];decide)
 have n5:(s = [82,79,85,78,68])=False:=eq_false (by rw [<-hs];decide)
 have n6:(s = [82,79,85,78,68,85,80])=True:=eq_true (by rw [<-hs];decide)
 have n7:(s = [70,76,79,79,82])=False:=eq_false (by rw [<-hs];decide)
 have n8:(s = [67,69,73,76,73,78,71])=False:=eq_false (by rw [<-hs];decide)
 have n9:(s = [77,82,79,85,78,68])=False:=eq_false (by rw [<-hs];decide)
 have n10:(s = [77,79,68])=False:=eq_false (by rw [<-hs];decide)
 have n11:(s = [81,85,79,84,73,69,78,84])=False:=eq_false (by rw [<-hs];decide)
 have n12:(s = [80,79,87,69,82])=False:=eq_false (by rw [<-hs];decide)
 have n13:(s = [83,81,82,84])=False:=eq_false (by rw [<-hs];decide)
 have n14:(s = [70,65,67,84])=False:=eq_false (by rw [<-hs];decide)
 have n15:(s = [69,86,69,78])=False:=eq_false (by rw [<-hs];decide)
 have n16:(s = [79,68,68])=False:=eq_false (by rw [<-hs];decide)
 have n17:(s = [67,76,65,77,80])=False:=eq_false (by rw [<-hs];decide)
 have n18:(s = [71,67,68])=False:=eq_false (by rw [<-hs];decide)
 have n19:(s = [76,67,77])=False:=eq_false (by rw [<-hs];decide)
 rw [hs] at hf
 simp only [List.map_cons] at hf
 simp only [List.map_cons] at hP
 generalize placesM (a::T)=p at *
 simp (disch:=first|assumption|omega|(simp only [List.length_append,List.length_cons,List.length_nil];omega)) only [go_sem,reduceCtorEq,Nat.reduceEqDiff,Nat.reduceAdd,Nat.reduceSub,Nat.reduceMul,Nat.reduceLeDiff,Int.reduceLT,Int.reduceLE,Int.reduceEq,↓reduceIte,Int.reduceNeg,Int.reduceAdd,Int.reduceSub,Int.reduceMul,true_imp_iff,forall_const,Nat.mul_one,Int.reduceToNat,Nat.reducePow,Int.reducePow,Bool.true_and,Bool.false_and,Bool.and_false,hf,n0,n1,n2,n3,n4,n5,n6,n7,n8,n9,n10,n11,n12,n13,n14,n15,n16,n17,n18,n19]
 refine hP.use ?_
 simp (disch:=first|assumption|omega|(simp only [List.length_append,List.length_cons,List.length_nil];omega)) only [go_sem,reduceCtorEq,Nat.reduceEqDiff,Nat.reduceAdd,Nat.reduceSub,Nat.reduceMul,Nat.reduceLeDiff,Int.reduceLT,Int.reduceLE,Int.reduceEq,↓reduceIte,Int.reduceNeg,Int.reduceAdd,Int.reduceSub,Int.reduceMul,true_imp_iff,forall_const,Nat.mul_one,Int.reduceToNat,Nat.reducePow,Int.reducePow,Bool.true_and,Bool.false_and,Bool.and_false,hf,n0,n1,n2,n3,n4,n5,n6,n7,n8,n9,n10,n11,n12,n13,n14,n15,n16,n17,n18,n19]
 refine hX.mono ?_
 rintro v σ' ⟨rfl,rfl⟩
 simp (disch:=first|assumption|omega|(simp only [List.length_append,List.length_cons,List.length_nil];omega)) only [go_sem,reduceCtorEq,Nat.reduceEqDiff,Nat.reduceAdd,Nat.reduceSub,Nat.reduceMul,Nat.reduceLeDiff,Int.reduceLT,Int.reduceLE,Int.reduceEq,↓reduceIte,Int.reduceNeg,Int.reduceAdd,Int.reduceSub,Int.reduceMul,true_imp_iff,forall_const,Nat.mul_one,Int.reduceToNat,Nat.reducePow,Int.reducePow,Bool.true_and,Bool.false_and,Bool.and_false]
 exact retC_by (by repeat' (first|exact Drop.refl _|with_reducible refine Drop.off ?_ (by assumption))) (.refl _) ⟨rfl,rfl⟩
set_option maxHeartbeats 1000000 in
theorem mk_FLOOR {σ:ASt} (hT:Tens σ) {a:Int} {T:List Int} (hl:T.length<=900) (ha:a.natAbs<=999999999999999999) (hT1:(secP (a::T) 0).natAbs<=999999999999999999) (hT2:(secP (a::T) 10000).natAbs<=999999999999999999):∀ (a1:AFr),(a1 0 = .str sFLOOR/\a1 7 = .sl .shr ((a::T).map (AV.int .i64)))->ACode.wp Tryz.prog c10_123 (RetQ [.t 4] fun v σ'=>v=(stepV false a (secP (a::T) 10000)).av/\σ'=σ) a1 σ:=by
 intro a1 hf
 have hP:=second_ok (a::T) 10000 (by simp;omega)
 have hX:=stepped_ok false ha hT2
 generalize (stepV false a (secP (a::T) 10000)).av=V at *
 obtain ⟨s,hs⟩:∃ s,sFLOOR=s:=⟨_,rfl⟩
 have n0:(s = [65,66,83])=False:=eq_false (by rw [<-hs];decide)
 have n1:(s = [83,73,71,78])=False:=eq_false (by rw [<-hs];decide)
 have n2:(s = [73,78,84])=False:=eq_false (by rw [<-hs];decide)
 have n3:(s = [84,82,85,78,67])=False:=eq_false (by rw [<-hs];decide)
 have n4:(s = [82,79,85,78,68,68,79,87,78])=False:=eq_false (by rw [<-hs];decide)
 have n5:(s = [82,79,85,78,68])=False:=eq_false (by rw [<-hs];decide)
 have n6:(s = [82,79,85,78,68,85,80])=False:=eq_false (by rw [<-hs];decide)
 have n7:(s = [70,76,79,79,82])=True:=eq_true (by rw [<-hs];decide)
 have n8:(s = [67,69,73,76,73,78,71])=False:=eq_false (by rw [<-hs];decide)
 have n9:(s = [77,82,79,85,78,68])=False:=eq_false (by rw [<-hs];decide)
 have n10:(s = [77,79,68])=False:=eq_false (by rw [<-hs];decide)
 have n11:(s = [81,85,79,84,73,69,78,84])=False:=eq_false (by rw [<-hs];decide)
 have n12:(s = [80,79,87,69,82])=False:=eq_false (by rw [<-hs];decide)
 have n13:(s = [83,81,82,84])=False:=eq_false (by rw [<-hs];decide)
 have n14:(s = [70,65,67,84])=False:=eq_false (by rw [<-hs];decide)
 have n15:(s = [69,86,69,78])=False:=eq_false (by rw [<-hs];decide)
 have n16:(s = [79,68,68])=False:=eq_false (by rw [<-hs];decide)
 have n17:(s = [67,76,65,77,80])=False:=eq_false (by rw [<-hs];decide)
 have n18:(s = [71,67,68])=False:=eq_false (by rw [<-hs];decide)
 have n19:(s = [76,67,77])=False:=eq_false (by rw [<-hs];decide)
 rw [hs] at hf
 simp only [List.map_cons] at hf
 simp only [List.map_cons] at hP
 generalize secP (a::T) 10000=t at *
 simp (disch:=first|assumption|omega|(simp only [List.length_append,List.length_cons,List.length_nil];omega)) only [go_sem,reduceCtorEq,Nat.reduceEqDiff,Nat.reduceAdd,Nat.reduceSub,Nat.reduceMul,Nat.reduceLeDiff,Int.reduceLT,Int.reduceLE,Int.reduceEq,↓reduceIte,Int.reduceNeg,Int.reduceAdd,Int.reduceSub,Int.reduceMul,true_imp_iff,forall_const,Nat.mul_one,Int.reduceToNat,Nat.reducePow,Int.reducePow,Bool.true_and,Bool.false_and,Bool.and_false,hf,n0,n1,n2,n3,n4,n5,n6,n7,n8,n9,n10,n11,n12,n13,n14,n15,n16,n17,n18,n19]
 refine hP.use ?_
 simp (disch:=first|assumption|omega|(simp only [List.length_append,List.length_cons,List.length_nil];omega)) only [go_sem,reduceCtorEq,Nat.reduceEqDiff,Nat.reduceAdd,Nat.reduceSub,Nat.reduceMul,Nat.reduceLeDiff,Int.reduceLT,Int.reduceLE,Int.reduceEq,↓reduceIte,Int.reduceNeg,Int.reduceAdd,Int.reduceSub,Int.reduceMul,true_imp_iff,forall_const,Nat.mul_one,Int.reduceToNat,Nat.reducePow,Int.reducePow,Bool.true_and,Bool.false_and,Bool.and_false,hf,n0,n1,n2,n3,n4,n5,n6,n7,n8,n9,n10,n11,n12,n13,n14,n15,n16,n17,n18,n19]
 refine hX.use ?_
 simp (disch:=first|assumption|omega|(simp only [List.length_append,List.length_cons,List.length_nil];omega)) only [go_sem,reduceCtorEq,Nat.reduceEqDiff,Nat.reduceAdd,Nat.reduceSub,Nat.reduceMul,Nat.reduceLeDiff,Int.reduceLT,Int.reduceLE,Int.reduceEq,↓reduceIte,Int.reduceNeg,Int.reduceAdd,Int.reduceSub,Int.reduceMul,true_imp_iff,forall_const,Nat.mul_one,Int.reduceToNat,Nat.reducePow,Int.reducePow,Bool.true_and,Bool.false_and,Bool.and_false,hf,n0,n1,n2,n3,n4,n5,n6,n7,n8,n9,n10,n11,n12,n13,n14,n15,n16,n17,n18,n19]
 exact retC_by (by repeat' (first|exact Drop.refl _|with_reducible refine Drop.off ?_ (by assumption))) (.refl _) ⟨rfl,rfl⟩
set_option maxHeartbeats 1000000 in
theorem mk_CEIL {σ:ASt} (hT:Tens σ) {a:Int} {T:List Int} (hl:T.length<=900) (ha:a.natAbs<=999999999999999999) (hT1:(secP (a::T) 0).natAbs<=999999999999999999) (hT2:(secP (a::T) 10000).natAbs<=999999999999999999):∀ (a1:AFr),(a1 0 = .str sCEIL/\a1 7 = .sl .shr ((a::T).map (AV.int .i64)))->ACode.wp Tryz.prog c10_123 (RetQ [.t 4] fun v σ'=>v=(stepV true a (secP (a::T) 10000)).av/\σ'=σ) a1 σ:=by
 intro a1 hf
 have hP:=second_ok (a::T) 10000 (by simp;omega)
 have hX:=stepped_ok true ha hT2
 generalize (stepV true a (secP (a::T) 10000)).av=V at *
 obtain ⟨s,hs⟩:∃ s,sCEIL=s:=⟨_,rfl⟩
 have n0:(s = [65,66,83])=False:=eq_false (by rw [<-hs];decide)
 have n1:(s = [83,73,71,78])=False:=eq_false (by rw [<-hs];decide)
 have n2:(s = [73,78,84])=False:=eq_false (by rw [<-hs];decide)
 have n3:(s = [84,82,85,78,67])=False:=eq_false (by rw [<-hs];decide)
 have n4:(s = [82,79,85,78,68,68,79,87,78])=False:=eq_false (by rw [<-hs];decide)
 have n5:(s = [82,79,85,78,68])=False:=eq_false (by rw [<-hs];decide)
 have n6:(s = [82,79,85,78,68,85,80])=False:=eq_false (by rw [<-hs];decide)
 have n7:(s = [70,76,79,79,82])=False:=eq_false (by rw [<-hs];decide)
 have n8:(s = [67,69,73,76,73,78,71])=True:=eq_true (by rw [<-hs];decide)
 have n9:(s = [77,82,79,85,78,68])=False:=eq_false (by rw [<-hs];decide)
 have n10:(s = [77,79,68])=False:=eq_false (by rw [<-hs];decide)
 have n11:(s = [81,85,79,84,73,69,78,84])=False:=eq_false (by rw [<-hs];decide)
 have n12:(s = [80,79,87,69,82])=False:=eq_false (by rw [<-hs];decide)
 have n13:(s = [83,81,82,84])=False:=eq_false (by rw [<-hs];decide)
 have n14:(s = [70,65,67,84])=False:=eq_false (by rw [<-hs];decide)
 have n15:(s = [69,86,69,78])=False:=eq_false (by rw [<-hs];decide)
 have n16:(s = [79,68,68])=False:=eq_false (by rw [<-hs];decide)
 have n17:(s = [67,76,65,77,80])=False:=eq_false (by rw [<-hs];decide)
 have n18:(s = [71,67,68])=False:=eq_false (by rw [<-hs];decide)
 have n19:(s = [76,67,77])=False:=eq_false (by rw [<-hs];decide)
 rw [hs] at hf
 simp only [List.map_cons] at hf
 simp only [List.map_cons] at hP
 generalize secP (a::T) 10000=t at *
 simp (disch:=first|assumption|omega|(simp only [List.length_append,List.length_cons,List.length_nil];omega)) only [go_sem,reduceCtorEq,Nat.reduceEqDiff,Nat.reduceAdd,Nat.reduceSub,Nat.reduceMul,Nat.reduceLeDiff,Int.reduceLT,Int.reduceLE,Int.reduceEq,↓reduceIte,Int.reduceNeg,Int.reduceAdd,Int.reduceSub,Int.reduceMul,true_imp_iff,forall_const,Nat.mul_one,Int.reduceToNat,Nat.reducePow,Int.reducePow,Bool.true_and,Bool.false_and,Bool.and_false,hf,n0,n1,n2,n3,n4,n5,n6,n7,n8,n9,n10,n11,n12,n13,n14,n15,n16,n17,n18,n19]
 refine hP.use ?_
 simp (disch:=first|assumption|omega|(simp only [List.length_append,List.length_cons,List.length_nil];omega)) only [go_sem,reduceCtorEq,Nat.reduceEqDiff,Nat.reduceAdd,Nat.reduceSub,Nat.reduceMul,Nat.reduceLeDiff,Int.reduceLT,Int.reduceLE,Int.reduceEq,↓reduceIte,Int.reduceNeg,Int.reduceAdd,Int.reduceSub,Int.reduceMul,true_imp_iff,forall_const,Nat.mul_one,Int.reduceToNat,Nat.reducePow,Int.reducePow,Bool.true_and,Bool.false_and,Bool.and_false,hf,n0,n1,n2,n3,n4,n5,n6,n7,n8,n9,n10,n11,n12,n13,n14,n15,n16,n17,n18,n19]
 refine hX.use ?_
 simp (disch:=first|assumption|omega|(simp only [List.length_append,List.length_cons,List.length_nil];omega)) only [go_sem,reduceCtorEq,Nat.reduceEqDiff,Nat.reduceAdd,Nat.reduceSub,Nat.reduceMul,Nat.reduceLeDiff,Int.reduceLT,Int.reduceLE,Int.reduceEq,↓reduceIte,Int.reduceNeg,Int.reduceAdd,Int.reduceSub,Int.reduceMul,true_imp_iff,forall_const,Nat.mul_one,Int.reduceToNat,Nat.reducePow,Int.reducePow,Bool.true_and,Bool.false_and,Bool.and_false,hf,n0,n1,n2,n3,n4,n5,n6,n7,n8,n9,n10,n11,n12,n13,n14,n15,n16,n17,n18,n19]
 exact retC_by (by repeat' (first|exact Drop.refl _|with_reducible refine Drop.off ?_ (by assumption))) (.refl _) ⟨rfl,rfl⟩
set_option maxHeartbeats 1000000 in
theorem mk_MROUND {σ:ASt} (hT:Tens σ) {a b:Int} (ha:a.natAbs<=999999999999999999) (hb:b.natAbs<=999999999999999999):∀ (a1:AFr),(a1 0 = .str sMROUND/\a1 7 = .sl .shr (([a,b]).map (AV.int .i64)))->ACode.wp Tryz.prog c10_123 (RetQ [.t 4] fun v σ'=>v=(nearV a b).av/\σ'=σ) a1 σ:=by
 intro a1 hf
 have hX:=nearest_ok ha hb
 generalize (nearV a b).av=V at *
 obtain ⟨s,hs⟩:∃ s,sMROUND=s:=⟨_,rfl⟩
 have n0:(s = [65,66,83])=False:=eq_false (by rw [<-hs];decide)
 have n1:(s = [83,73,71,78])=False:=eq_false (by rw [<-hs];decide)
 have n2:(s = [73,78,84])=False:=eq_false (by rw [<-hs];decide)
 have n3:(s = [84,82,85,78,67])=False:=eq_false (by rw [<-hs];decide)
 have n4:(s = [82,79,85,78,68,68,79,87,78])=False:=eq_false (by rw [<-hs];decide)
 have n5:(s = [82,79,85,78,68])=False:=eq_false (by rw [<-hs];decide)
 have n6:(s = [82,79,85,78,68,85,80])=False:=eq_false (by rw [<-hs];decide)
 have n7:(s = [70,76,79,79,82])=False:=eq_false (by rw [<-hs];decide)
 have n8:(s = [67,69,73,76,73,78,71])=False:=eq_false (by rw [<-hs];decide)
 have n9:(s = [77,82,79,85,78,68])=True:=eq_true (by rw [<-hs];decide)
 have n10:(s = [77,79,68])=False:=eq_false (by rw [<-hs];decide)
 have n11:(s = [81,85,79,84,73,69,78,84])=False:=eq_false (by rw [<-hs];decide)
 have n12:(s = [80,79,87,69,82])=False:=eq_false (by rw [<-hs];decide)
 have n13:(s = [83,81,82,84])=False:=eq_false (by rw [<-hs];decide)
 have n14:(s = [70,65,67,84])=False:=eq_false (by rw [<-hs];decide)
 have n15:(s = [69,86,69,78])=False:=eq_false (by rw [<-hs];decide)
 have n16:(s = [79,68,68])=False:=eq_false (by rw [<-hs];decide)
 have n17:(s = [67,76,65,77,80])=False:=eq_false (by rw [<-hs];decide)
 have n18:(s = [71,67,68])=False:=eq_false (by rw [<-hs];decide)
 have n19:(s = [76,67,77])=False:=eq_false (by rw [<-hs];decide)
 rw [hs] at hf
 simp only [List.map_cons,List.map_nil] at hf
 simp (disch:=first|assumption|omega|(simp only [List.length_append,List.length_cons,List.length_nil];omega)) only [go_sem,reduceCtorEq,Nat.reduceEqDiff,Nat.reduceAdd,Nat.reduceSub,Nat.reduceMul,Nat.reduceLeDiff,Int.reduceLT,Int.reduceLE,Int.reduceEq,↓reduceIte,Int.reduceNeg,Int.reduceAdd,Int.reduceSub,Int.reduceMul,true_imp_iff,forall_const,Nat.mul_one,Int.reduceToNat,Nat.reducePow,Int.reducePow,Bool.true_and,Bool.false_and,Bool.and_false,hf,n0,n1,n2,n3,n4,n5,n6,n7,n8,n9,n10,n11,n12,n13,n14,n15,n16,n17,n18,n19]
 refine hX.use ?_
 simp (disch:=first|assumption|omega|(simp only [List.length_append,List.length_cons,List.length_nil];omega)) only [go_sem,reduceCtorEq,Nat.reduceEqDiff,Nat.reduceAdd,Nat.reduceSub,Nat.reduceMul,Nat.reduceLeDiff,Int.reduceLT,Int.reduceLE,Int.reduceEq,↓reduceIte,Int.reduceNeg,Int.reduceAdd,Int.reduceSub,Int.reduceMul,true_imp_iff,forall_const,Nat.mul_one,Int.reduceToNat,Nat.reducePow,Int.reducePow,Bool.true_and,Bool.false_and,Bool.and_false,hf,n0,n1,n2,n3,n4,n5,n6,n7,n8,n9,n10,n11,n12,n13,n14,n15,n16,n17,n18,n19]
 exact retC_by (by repeat' (first|exact Drop.refl _|with_reducible refine Drop.off ?_ (by assumption))) (.refl _) ⟨rfl,rfl⟩
set_option maxHeartbeats 1000000 in
theorem mk_MOD {σ:ASt} (hT:Tens σ) {a b:Int} (ha:a.natAbs<=999999999999999999) (hb:b.natAbs<=999999999999999999):∀ (a1:AFr),(a1 0 = .str sMOD/\a1 7 = .sl .shr (([a,b]).map (AV.int .i64)))->ACode.wp Tryz.prog c10_123 (RetQ [.t 4] fun v σ'=>v=(modV a b).av/\σ'=σ) a1 σ:=by
 intro a1 hf
 unfold modV
 obtain ⟨s,hs⟩:∃ s,sMOD=s:=⟨_,rfl⟩
 have n0:(s = [65,66,83])=False:=eq_false (by rw [<-hs];decide)
 have n1:(s = [83,73,71,78])=False:=eq_false (by rw [<-hs];decide)
 have n2:(s = [73,78,84])=False:=eq_false (by rw [<-hs];decide)
 have n3:(s = [84,82,85,78,67])=False:=eq_false (by rw [<-hs];decide)
 have n4:(s = [82,79,85,78,68,68,79,87,78])=False:=eq_false (by rw [<-hs];decide)
 have n5:(s = [82,79,85,78,68])=False:=eq_false (by rw [<-hs];decide)
 have n6:(s = [82,79,85,78,68,85,80])=False:=eq_false (by rw [<-hs];decide)
 have n7:(s = [70,76,79,79,82])=False:=eq_false (by rw [<-hs];decide)
 have n8:(s = [67,69,73,76,73,78,71])=False:=eq_false (by rw [<-hs];decide)
 have n9:(s = [77,82,79,85,78,68])=False:=eq_false (by rw [<-hs];decide)
 have n10:(s = [77,79,68])=True:=eq_true (by rw [<-hs];decide)
 have n11:(s = [81,85,79,84,73,69,78,84])=False:=eq_false (by rw [<-hs];decide)
 have n12:(s = [80,79,87,69,82])=False:=eq_false (by rw [<-hs];decide)
 have n13:(s = [83,81,82,84])=False:=eq_false (by rw [<-hs];decide)
 have n14:(s = [70,65,67,84])=False:=eq_false (by rw [<-hs];decide)
 have n15:(s = [69,86,69,78])=False:=eq_false (by rw [<-hs];decide)
 have n16:(s = [79,68,68])=False:=eq_false (by rw [<-hs];decide)
 have n17:(s = [67,76,65,77,80])=False:=eq_false (by rw [<-hs];decide)
 have n18:(s = [71,67,68])=False:=eq_false (by rw [<-hs];decide)
 have n19:(s = [76,67,77])=False:=eq_false (by rw [<-hs];decide)
 rw [hs] at hf
 simp only [List.map_cons,List.map_nil] at hf
 by_cases hb0:b=0
 ·rw [if_pos hb0]
  simp only [PV.av]
  simp (disch:=first|assumption|omega|(simp only [List.length_append,List.length_cons,List.length_nil];omega)) only [go_sem,reduceCtorEq,Nat.reduceEqDiff,Nat.reduceAdd,Nat.reduceSub,Nat.reduceMul,Nat.reduceLeDiff,Int.reduceLT,Int.reduceLE,Int.reduceEq,↓reduceIte,Int.reduceNeg,Int.reduceAdd,Int.reduceSub,Int.reduceMul,true_imp_iff,forall_const,Nat.mul_one,Int.reduceToNat,Nat.reducePow,Int.reducePow,Bool.true_and,Bool.false_and,Bool.and_false,hf,hb0,n0,n1,n2,n3,n4,n5,n6,n7,n8,n9,n10,n11,n12,n13,n14,n15,n16,n17,n18,n19]
  exact retC_by (by repeat' (first|exact Drop.refl _|with_reducible refine Drop.off ?_ (by assumption))) (.refl _) ⟨rfl,rfl⟩
 rw [if_neg hb0]
 have hX:=dmod_g ha hb hb0
 have hC:=counted_ok (some (modG a b))
 simp only [cntP,PV.av,Option.getD_some,Option.isSome_some] at hC ⊢
 generalize modG a b=m at *
 simp (disch:=first|assumption|omega|(simp only [List.length_append,List.length_cons,List.length_nil];omega)) only [go_sem,reduceCtorEq,Nat.reduceEqDiff,Nat.reduceAdd,Nat.reduceSub,Nat.reduceMul,Nat.reduceLeDiff,Int.reduceLT,Int.reduceLE,Int.reduceEq,↓reduceIte,Int.reduceNeg,Int.reduceAdd,Int.reduceSub,Int.reduceMul,true_imp_iff,forall_const,Nat.mul_one,Int.reduceToNat,Nat.reducePow,Int.reducePow,Bool.true_and,Bool.false_and,Bool.and_false,hf,hb0,n0,n1,n2,n3,n4,n5,n6,n7,n8,n9,n10,n11,n12,n13,n14,n15,n16,n17,n18,n19]
 refine hX.use ?_
 simp (disch:=first|assumption|omega|(simp only [List.length_append,List.length_cons,List.length_nil];omega)) only [go_sem,reduceCtorEq,Nat.reduceEqDiff,Nat.reduceAdd,Nat.reduceSub,Nat.reduceMul,Nat.reduceLeDiff,Int.reduceLT,Int.reduceLE,Int.reduceEq,↓reduceIte,Int.reduceNeg,Int.reduceAdd,Int.reduceSub,Int.reduceMul,true_imp_iff,forall_const,Nat.mul_one,Int.reduceToNat,Nat.reducePow,Int.reducePow,Bool.true_and,Bool.false_and,Bool.and_false,hf,n0,n1,n2,n3,n4,n5,n6,n7,n8,n9,n10,n11,n12,n13,n14,n15,n16,n17,n18,n19]
 refine hC.use ?_
 simp (disch:=first|assumption|omega|(simp only [List.length_append,List.length_cons,List.length_nil];omega)) only [go_sem,reduceCtorEq,Nat.reduceEqDiff,Nat.reduceAdd,Nat.reduceSub,Nat.reduceMul,Nat.reduceLeDiff,Int.reduceLT,Int.reduceLE,Int.reduceEq,↓reduceIte,Int.reduceNeg,Int.reduceAdd,Int.reduceSub,Int.reduceMul,true_imp_iff,forall_const,Nat.mul_one,Int.reduceToNat,Nat.reducePow,Int.reducePow,Bool.true_and,Bool.false_and,Bool.and_false,hf,n0,n1,n2,n3,n4,n5,n6,n7,n8,n9,n10,n11,n12,n13,n14,n15,n16,n17,n18,n19]
 exact retC_by (by repeat' (first|exact Drop.refl _|with_reducible refine Drop.off ?_ (by assumption))) (.refl _) ⟨rfl,rfl⟩
set_option maxHeartbeats 1000000 in
theorem mk_QUOT {σ:ASt} (hT:Tens σ) {a b:Int} (ha:a.natAbs<=999999999999999999) (hb:b.natAbs<=999999999999999999):∀ (a1:AFr),(a1 0 = .str sQUOT/\a1 7 = .sl .shr (([a,b]).map (AV.int .i64)))->ACode.wp Tryz.prog c10_123 (RetQ [.t 4] fun v σ'=>v=((if b=0 then PV.fail 1 else cntP (intP (a.tdiv b)))).av/\σ'=σ) a1 σ:=by
 intro a1 hf
 have hX:=quotient_ok ha hb
 generalize ((if b=0 then PV.fail 1 else cntP (intP (a.tdiv b)))).av=V at *
 obtain ⟨s,hs⟩:∃ s,sQUOT=s:=⟨_,rfl⟩
 have n0:(s = [65,66,83])=False:=eq_false (by rw [<-hs];decide)
 have n1:(s = [83,73,71,78])=False:=eq_false (by rw [<-hs];decide)
 have n2:(s = [73,78,84])=False:=eq_false (by rw [<-hs];decide)
 have n3:(s = [84,82,85,78,67])=False:=eq_false (by rw [<-hs];decide)
 have n4:(s = [82,79,85,78,68,68,79,87,78])=False:=eq_false (by rw [<-hs];decide)
 have n5:(s = [82,79,85,78,68])=False:=eq_false (by rw [<-hs];decide)
 have n6:(s = [82,79,85,78,68,85,80])=False:=eq_false (by rw [<-hs];decide)
 have n7:(s = [70,76,79,79,82])=False:=eq_false (by rw [<-hs];decide)
 have n8:(s = [67,69,73,76,73,78,71])=False:=eq_false (by rw [<-hs];decide)
 have n9:(s = [77,82,79,85,78,68])=False:=eq_false (by rw [<-hs];decide)
 have n10:(s = [77,79,68])=False:=eq_false (by rw [<-hs];decide)
 have n11:(s = [81,85,79,84,73,69,78,84])=True:=eq_true (by rw [<-hs];decide)
 have n12:(s = [80,79,87,69,82])=False:=eq_false (by rw [<-hs];decide)
 have n13:(s = [83,81,82,84])=False:=eq_false (by rw [<-hs];decide)
 have n14:(s = [70,65,67,84])=False:=eq_false (by rw [<-hs];decide)
 have n15:(s = [69,86,69,78])=False:=eq_false (by rw [<-hs];decide)
 have n16:(s = [79,68,68])=False:=eq_false (by rw [<-hs];decide)
 have n17:(s = [67,76,65,77,80])=False:=eq_false (by rw [<-hs];decide)
 have n18:(s = [71,67,68])=False:=eq_false (by rw [<-hs];decide)
 have n19:(s = [76,67,77])=False:=eq_false (by rw [<-hs];decide)
 rw [hs] at hf
 simp only [List.map_cons,List.map_nil] at hf
 simp (disch:=first|assumption|omega|(simp only [List.length_append,List.length_cons,List.length_nil];omega)) only [go_sem,reduceCtorEq,Nat.reduceEqDiff,Nat.reduceAdd,Nat.reduceSub,Nat.reduceMul,Nat.reduceLeDiff,Int.reduceLT,Int.reduceLE,Int.reduceEq,↓reduceIte,Int.reduceNeg,Int.reduceAdd,Int.reduceSub,Int.reduceMul,true_imp_iff,forall_const,Nat.mul_one,Int.reduceToNat,Nat.reducePow,Int.reducePow,Bool.true_and,Bool.false_and,Bool.and_false,hf,n0,n1,n2,n3,n4,n5,n6,n7,n8,n9,n10,n11,n12,n13,n14,n15,n16,n17,n18,n19]
 refine hX.use ?_
 simp (disch:=first|assumption|omega|(simp only [List.length_append,List.length_cons,List.length_nil];omega)) only [go_sem,reduceCtorEq,Nat.reduceEqDiff,Nat.reduceAdd,Nat.reduceSub,Nat.reduceMul,Nat.reduceLeDiff,Int.reduceLT,Int.reduceLE,Int.reduceEq,↓reduceIte,Int.reduceNeg,Int.reduceAdd,Int.reduceSub,Int.reduceMul,true_imp_iff,forall_const,Nat.mul_one,Int.reduceToNat,Nat.reducePow,Int.reducePow,Bool.true_and,Bool.false_and,Bool.and_false,hf,n0,n1,n2,n3,n4,n5,n6,n7,n8,n9,n10,n11,n12,n13,n14,n15,n16,n17,n18,n19]
 exact retC_by (by repeat' (first|exact Drop.refl _|with_reducible refine Drop.off ?_ (by assumption))) (.refl _) ⟨rfl,rfl⟩
set_option maxHeartbeats 1000000 in
theorem mk_POWER {σ:ASt} (hT:Tens σ) {a b:Int} (ha:a.natAbs<=999999999999999999) (hb:b.natAbs<=999999999999999999):∀ (a1:AFr),(a1 0 = .str sPOWER/\a1 7 = .sl .shr (([a,b]).map (AV.int .i64)))->ACode.wp Tryz.prog c10_123 (RetQ [.t 4] fun v σ'=>v=(powV a b).av/\σ'=σ) a1 σ:=by
 intro a1 hf
 have hX:=vpower_ok ha hb
 generalize (powV a b).av=V at *
 obtain ⟨s,hs⟩:∃ s,sPOWER=s:=⟨_,rfl⟩
 have n0:(s = [65,66,83])=False:=eq_false (by rw [<-hs];decide)
 have n1:(s = [83,73,71,78])=False:=eq_false (by rw [<-hs];decide)
 have n2:(s = [73,78,84])=False:=eq_false (by rw [<-hs];decide)
 have n3:(s = [84,82,85,78,67])=False:=eq_false (by rw [<-hs];decide)
 have n4:(s = [82,79,85,78,68,68,79,87,78])=False:=eq_false (by rw [<-hs];decide)
 have n5:(s = [82,79,85,78,68])=False:=eq_false (by rw [<-hs];decide)
 have n6:(s = [82,79,85,78,68,85,80])=False:=eq_false (by rw [<-hs];decide)
 have n7:(s = [70,76,79,79,82])=False:=eq_false (by rw [<-hs];decide)
 have n8:(s = [67,69,73,76,73,78,71])=False:=eq_false (by rw [<-hs];decide)
 have n9:(s = [77,82,79,85,78,68])=False:=eq_false (by rw [<-hs];decide)
 have n10:(s = [77,79,68])=False:=eq_false (by rw [<-hs];decide)
 have n11:(s = [81,85,79,84,73,69,78,84])=False:=eq_false (by rw [<-hs];decide)
 have n12:(s = [80,79,87,69,82])=True:=eq_true (by rw [<-hs];decide)
 have n13:(s = [83,81,82,84])=False:=eq_false (by rw [<-hs];decide)
 have n14:(s = [70,65,67,84])=False:=eq_false (by rw [<-hs];decide)
 have n15:(s = [69,86,69,78])=False:=eq_false (by rw [<-hs];decide)
 have n16:(s = [79,68,68])=False:=eq_false (by rw [<-hs];decide)
 have n17:(s = [67,76,65,77,80])=False:=eq_false (by rw [<-hs];decide)
 have n18:(s = [71,67,68])=False:=eq_false (by rw [<-hs];decide)
 have n19:(s = [76,67,77])=False:=eq_false (by rw [<-hs];decide)
 rw [hs] at hf
 simp only [List.map_cons,List.map_nil] at hf
 simp (disch:=first|assumption|omega|(simp only [List.length_append,List.length_cons,List.length_nil];omega)) only [go_sem,reduceCtorEq,Nat.reduceEqDiff,Nat.reduceAdd,Nat.reduceSub,Nat.reduceMul,Nat.reduceLeDiff,Int.reduceLT,Int.reduceLE,Int.reduceEq,↓reduceIte,Int.reduceNeg,Int.reduceAdd,Int.reduceSub,Int.reduceMul,true_imp_iff,forall_const,Nat.mul_one,Int.reduceToNat,Nat.reducePow,Int.reducePow,Bool.true_and,Bool.false_and,Bool.and_false,hf,n0,n1,n2,n3,n4,n5,n6,n7,n8,n9,n10,n11,n12,n13,n14,n15,n16,n17,n18,n19]
 refine hX.use ?_
 simp (disch:=first|assumption|omega|(simp only [List.length_append,List.length_cons,List.length_nil];omega)) only [go_sem,reduceCtorEq,Nat.reduceEqDiff,Nat.reduceAdd,Nat.reduceSub,Nat.reduceMul,Nat.reduceLeDiff,Int.reduceLT,Int.reduceLE,Int.reduceEq,↓reduceIte,Int.reduceNeg,Int.reduceAdd,Int.reduceSub,Int.reduceMul,true_imp_iff,forall_const,Nat.mul_one,Int.reduceToNat,Nat.reducePow,Int.reducePow,Bool.true_and,Bool.false_and,Bool.and_false,hf,n0,n1,n2,n3,n4,n5,n6,n7,n8,n9,n10,n11,n12,n13,n14,n15,n16,n17,n18,n19]
 exact retC_by (by repeat' (first|exact Drop.refl _|with_reducible refine Drop.off ?_ (by assumption))) (.refl _) ⟨rfl,rfl⟩
set_option maxHeartbeats 1000000 in
theorem mk_SQRT {σ:ASt} (hT:Tens σ) {a:Int} {T:List Int} (hl:T.length<=900) (ha:a.natAbs<=999999999999999999) (hT1:(secP (a::T) 0).natAbs<=999999999999999999) (hT2:(secP (a::T) 10000).natAbs<=999999999999999999):∀ (a1:AFr),(a1 0 = .str sSQRT/\a1 7 = .sl .shr ((a::T).map (AV.int .i64)))->ACode.wp Tryz.prog c10_123 (RetQ [.t 4] fun v σ'=>v=(sqrtV a).av/\σ'=σ) a1 σ:=by
 intro a1 hf
 unfold sqrtV
 obtain ⟨s,hs⟩:∃ s,sSQRT=s:=⟨_,rfl⟩
 have n0:(s = [65,66,83])=False:=eq_false (by rw [<-hs];decide)
 have n1:(s = [83,73,71,78])=False:=eq_false (by rw [<-hs];decide)
 have n2:(s = [73,78,84])=False:=eq_false (by rw [<-hs];decide)
 have n3:(s = [84,82,85,78,67])=False:=eq_false (by rw [<-hs];decide)
 have n4:(s = [82,79,85,78,68,68,79,87,78])=False:=eq_false (by rw [<-hs];decide)
 have n5:(s = [82,79,85,78,68])=False:=eq_false (by rw [<-hs];decide)
 have n6:(s = [82,79,85,78,68,85,80])=False:=eq_false (by rw [<-hs];decide)
 have n7:(s = [70,76,79,79,82])=False:=eq_false (by rw [<-hs];decide)
 have n8:(s = [67,69,73,76,73,78,71])=False:=eq_false (by rw [<-hs];decide)
 have n9:(s = [77,82,79,85,78,68])=False:=eq_false (by rw [<-hs];decide)
 have n10:(s = [77,79,68])=False:=eq_false (by rw [<-hs];decide)
 have n11:(s = [81,85,79,84,73,69,78,84])=False:=eq_false (by rw [<-hs];decide)
 have n12:(s = [80,79,87,69,82])=False:=eq_false (by rw [<-hs];decide)
 have n13:(s = [83,81,82,84])=True:=eq_true (by rw [<-hs];decide)
 have n14:(s = [70,65,67,84])=False:=eq_false (by rw [<-hs];decide)
 have n15:(s = [69,86,69,78])=False:=eq_false (by rw [<-hs];decide)
 have n16:(s = [79,68,68])=False:=eq_false (by rw [<-hs];decide)
 have n17:(s = [67,76,65,77,80])=False:=eq_false (by rw [<-hs];decide)
 have n18:(s = [71,67,68])=False:=eq_false (by rw [<-hs];decide)
 have n19:(s = [76,67,77])=False:=eq_false (by rw [<-hs];decide)
 rw [hs] at hf
 simp only [List.map_cons] at hf
 by_cases h0:a<0
 ·rw [if_pos h0]
  have hX:=sqrt_no h0
  have hC:=counted_ok none
  simp only [resAV] at hX
  simp only [cntP] at hC
  generalize (PV.fail 2).av=V at *
  simp (disch:=first|assumption|omega|(simp only [List.length_append,List.length_cons,List.length_nil];omega)) only [go_sem,reduceCtorEq,Nat.reduceEqDiff,Nat.reduceAdd,Nat.reduceSub,Nat.reduceMul,Nat.reduceLeDiff,Int.reduceLT,Int.reduceLE,Int.reduceEq,↓reduceIte,Int.reduceNeg,Int.reduceAdd,Int.reduceSub,Int.reduceMul,true_imp_iff,forall_const,Nat.mul_one,Int.reduceToNat,Nat.reducePow,Int.reducePow,Bool.true_and,Bool.false_and,Bool.and_false,hf,n0,n1,n2,n3,n4,n5,n6,n7,n8,n9,n10,n11,n12,n13,n14,n15,n16,n17,n18,n19]
  refine hX.use ?_
  simp (disch:=first|assumption|omega|(simp only [List.length_append,List.length_cons,List.length_nil];omega)) only [go_sem,reduceCtorEq,Nat.reduceEqDiff,Nat.reduceAdd,Nat.reduceSub,Nat.reduceMul,Nat.reduceLeDiff,Int.reduceLT,Int.reduceLE,Int.reduceEq,↓reduceIte,Int.reduceNeg,Int.reduceAdd,Int.reduceSub,Int.reduceMul,true_imp_iff,forall_const,Nat.mul_one,Int.reduceToNat,Nat.reducePow,Int.reducePow,Bool.true_and,Bool.false_and,Bool.and_false,hf,n0,n1,n2,n3,n4,n5,n6,n7,n8,n9,n10,n11,n12,n13,n14,n15,n16,n17,n18,n19]
  refine hC.use ?_
  simp (disch:=first|assumption|omega|(simp only [List.length_append,List.length_cons,List.length_nil];omega)) only [go_sem,reduceCtorEq,Nat.reduceEqDiff,Nat.reduceAdd,Nat.reduceSub,Nat.reduceMul,Nat.reduceLeDiff,Int.reduceLT,Int.reduceLE,Int.reduceEq,↓reduceIte,Int.reduceNeg,Int.reduceAdd,Int.reduceSub,Int.reduceMul,true_imp_iff,forall_const,Nat.mul_one,Int.reduceToNat,Nat.reducePow,Int.reducePow,Bool.true_and,Bool.false_and,Bool.and_false]
  exact retC_by (by repeat' (first|exact Drop.refl _|with_reducible refine Drop.off ?_ (by assumption))) (.refl _) ⟨rfl,rfl⟩
 rw [if_neg h0]
 have hX:=sqrt_ok (show 0<=a by omega) (by omega)
 have hC:=counted_ok (some ((rootD (a.toNat*10000):Nat):Int))
 simp only [cntP,PV.av,Option.getD_some,Option.isSome_some] at hC ⊢
 generalize rootD (a.toNat*10000)=r at *
 simp (disch:=first|assumption|omega|(simp only [List.length_append,List.length_cons,List.length_nil];omega)) only [go_sem,reduceCtorEq,Nat.reduceEqDiff,Nat.reduceAdd,Nat.reduceSub,Nat.reduceMul,Nat.reduceLeDiff,Int.reduceLT,Int.reduceLE,Int.reduceEq,↓reduceIte,Int.reduceNeg,Int.reduceAdd,Int.reduceSub,Int.reduceMul,true_imp_iff,forall_const,Nat.mul_one,Int.reduceToNat,Nat.reducePow,Int.reducePow,Bool.true_and,Bool.false_and,Bool.and_false,hf,n0,n1,n2,n3,n4,n5,n6,n7,n8,n9,n10,n11,n12,n13,n14,n15,n16,n17,n18,n19]
 refine hX.use ?_
 simp (disch:=first|assumption|omega|(simp only [List.length_append,List.length_cons,List.length_nil];omega)) only [go_sem,reduceCtorEq,Nat.reduceEqDiff,Nat.reduceAdd,Nat.reduceSub,Nat.reduceMul,Nat.reduceLeDiff,Int.reduceLT,Int.reduceLE,Int.reduceEq,↓reduceIte,Int.reduceNeg,Int.reduceAdd,Int.reduceSub,Int.reduceMul,true_imp_iff,forall_const,Nat.mul_one,Int.reduceToNat,Nat.reducePow,Int.reducePow,Bool.true_and,Bool.false_and,Bool.and_false,hf,n0,n1,n2,n3,n4,n5,n6,n7,n8,n9,n10,n11,n12,n13,n14,n15,n16,n17,n18,n19]
 refine hC.use ?_
 simp (disch:=first|assumption|omega|(simp only [List.length_append,List.length_cons,List.length_nil];omega)) only [go_sem,reduceCtorEq,Nat.reduceEqDiff,Nat.reduceAdd,Nat.reduceSub,Nat.reduceMul,Nat.reduceLeDiff,Int.reduceLT,Int.reduceLE,Int.reduceEq,↓reduceIte,Int.reduceNeg,Int.reduceAdd,Int.reduceSub,Int.reduceMul,true_imp_iff,forall_const,Nat.mul_one,Int.reduceToNat,Nat.reducePow,Int.reducePow,Bool.true_and,Bool.false_and,Bool.and_false,hf,n0,n1,n2,n3,n4,n5,n6,n7,n8,n9,n10,n11,n12,n13,n14,n15,n16,n17,n18,n19]
 exact retC_by (by repeat' (first|exact Drop.refl _|with_reducible refine Drop.off ?_ (by assumption))) (.refl _) ⟨rfl,rfl⟩
set_option maxHeartbeats 1000000 in
theorem mk_FACT {σ:ASt} (hT:Tens σ) {a:Int} {T:List Int} (hl:T.length<=900) (ha:a.natAbs<=999999999999999999) (hT1:(secP (a::T) 0).natAbs<=999999999999999999) (hT2:(secP (a::T) 10000).natAbs<=999999999999999999):∀ (a1:AFr),(a1 0 = .str sFACT/\a1 7 = .sl .shr ((a::T).map (AV.int .i64)))->ACode.wp Tryz.prog c10_123 (RetQ [.t 4] fun v σ'=>v=(factV a).av/\σ'=σ) a1 σ:=by
 intro a1 hf
 have hX:=fact_ok ha
 generalize (factV a).av=V at *
 obtain ⟨s,hs⟩:∃ s,sFACT=s:=⟨_,rfl⟩
 have n0:(s = [65,66,83])=False:=eq_false (by rw [<-hs];decide)
 have n1:(s = [83,73,71,78])=False:=eq_false (by rw [<-hs];decide)
 have n2:(s = [73,78,84])=False:=eq_false (by rw [<-hs];decide)
 have n3:(s = [84,82,85,78,67])=False:=eq_false (by rw [<-hs];decide)
 have n4:(s = [82,79,85,78,68,68,79,87,78])=False:=eq_false (by rw [<-hs];decide)
 have n5:(s = [82,79,85,78,68])=False:=eq_false (by rw [<-hs];decide)
 have n6:(s = [82,79,85,78,68,85,80])=False:=eq_false (by rw [<-hs];decide)
 have n7:(s = [70,76,79,79,82])=False:=eq_false (by rw [<-hs];decide)
 have n8:(s = [67,69,73,76,73,78,71])=False:=eq_false (by rw [<-hs];decide)
 have n9:(s = [77,82,79,85,78,68])=False:=eq_false (by rw [<-hs];decide)
 have n10:(s = [77,79,68])=False:=eq_false (by rw [<-hs];decide)
 have n11:(s = [81,85,79,84,73,69,78,84])=False:=eq_false (by rw [<-hs];decide)
 have n12:(s = [80,79,87,69,82])=False:=eq_false (by rw [<-hs];decide)
 have n13:(s = [83,81,82,84])=False:=eq_false (by rw [<-hs];decide)
 have n14:(s = [70,65,67,84])=True:=eq_true (by rw [<-hs];decide)
 have n15:(s = [69,86,69,78])=False:=eq_false (by rw [<-hs];decide)
 have n16:(s = [79,68,68])=False:=eq_false (by rw [<-hs];decide)
 have n17:(s = [67,76,65,77,80])=False:=eq_false (by rw [<-hs];decide)
 have n18:(s = [71,67,68])=False:=eq_false (by rw [<-hs];decide)
 have n19:(s = [76,67,77])=False:=eq_false (by rw [<-hs];decide)
 rw [hs] at hf
 simp only [List.map_cons] at hf
 simp (disch:=first|assumption|omega|(simp only [List.length_append,List.length_cons,List.length_nil];omega)) only [go_sem,reduceCtorEq,Nat.reduceEqDiff,Nat.reduceAdd,Nat.reduceSub,Nat.reduceMul,Nat.reduceLeDiff,Int.reduceLT,Int.reduceLE,Int.reduceEq,↓reduceIte,Int.reduceNeg,Int.reduceAdd,Int.reduceSub,Int.reduceMul,true_imp_iff,forall_const,Nat.mul_one,Int.reduceToNat,Nat.reducePow,Int.reducePow,Bool.true_and,Bool.false_and,Bool.and_false,hf,n0,n1,n2,n3,n4,n5,n6,n7,n8,n9,n10,n11,n12,n13,n14,n15,n16,n17,n18,n19]
 refine hX.use ?_
 simp (disch:=first|assumption|omega|(simp only [List.length_append,List.length_cons,List.length_nil];omega)) only [go_sem,reduceCtorEq,Nat.reduceEqDiff,Nat.reduceAdd,Nat.reduceSub,Nat.reduceMul,Nat.reduceLeDiff,Int.reduceLT,Int.reduceLE,Int.reduceEq,↓reduceIte,Int.reduceNeg,Int.reduceAdd,Int.reduceSub,Int.reduceMul,true_imp_iff,forall_const,Nat.mul_one,Int.reduceToNat,Nat.reducePow,Int.reducePow,Bool.true_and,Bool.false_and,Bool.and_false,hf,n0,n1,n2,n3,n4,n5,n6,n7,n8,n9,n10,n11,n12,n13,n14,n15,n16,n17,n18,n19]
 exact retC_by (by repeat' (first|exact Drop.refl _|with_reducible refine Drop.off ?_ (by assumption))) (.refl _) ⟨rfl,rfl⟩
set_option maxHeartbeats 1000000 in
theorem mk_EVEN {σ:ASt} (hT:Tens σ) {a:Int} {T:List Int} (hl:T.length<=900) (ha:a.natAbs<=999999999999999999) (hT1:(secP (a::T) 0).natAbs<=999999999999999999) (hT2:(secP (a::T) 10000).natAbs<=999999999999999999):∀ (a1:AFr),(a1 0 = .str sEVEN/\a1 7 = .sl .shr ((a::T).map (AV.int .i64)))->ACode.wp Tryz.prog c10_123 (RetQ [.t 4] fun v σ'=>v=(cntP (intP (evenN a 0))).av/\σ'=σ) a1 σ:=by
 intro a1 hf
 have hX:=pair_ok 0 ha (by omega)
 rw [show ((0:Nat):Int)=0 from rfl] at hX
 generalize (cntP (intP (evenN a 0))).av=V at *
 obtain ⟨s,hs⟩:∃ s,sEVEN=s:=⟨_,rfl⟩
 have n0:(s = [65,66,83])=False:=eq_false (by rw [<-hs];decide)
 have n1:(s = [83,73,71,78])=False:=eq_false (by rw [<-hs];decide)
 have n2:(s = [73,78,84])=False:=eq_false (by rw [<-hs];decide)
 have n3:(s = [84,82,85,78,67])=False:=eq_false (by rw [<-hs];decide)
 have n4:(s = [82,79,85,78,68,68,79,87,78])=False:=eq_false (by rw [<-hs];decide)
 have n5:(s = [82,79,85,78,68])=False:=eq_false (by rw [<-hs];decide)
 have n6:(s = [82,79,85,78,68,85,80])=False:=eq_false (by rw [<-hs];decide)
 have n7:(s = [70,76,79,79,82])=False:=eq_false (by rw [<-hs];decide)
 have n8:(s = [67,69,73,76,73,78,71])=False:=eq_false (by rw [<-hs];decide)
 have n9:(s = [77,82,79,85,78,68])=False:=eq_false (by rw [<-hs];decide)
 have n10:(s = [77,79,68])=False:=eq_false (by rw [<-hs];decide)
 have n11:(s = [81,85,79,84,73,69,78,84])=False:=eq_false (by rw [<-hs];decide)
 have n12:(s = [80,79,87,69,82])=False:=eq_false (by rw [<-hs];decide)
 have n13:(s = [83,81,82,84])=False:=eq_false (by rw [<-hs];decide)
 have n14:(s = [70,65,67,84])=False:=eq_false (by rw [<-hs];decide)
 have n15:(s = [69,86,69,78])=True:=eq_true (by rw [<-hs];decide)
 have n16:(s = [79,68,68])=False:=eq_false (by rw [<-hs];decide)
 have n17:(s = [67,76,65,77,80])=False:=eq_false (by rw [<-hs];decide)
 have n18:(s = [71,67,68])=False:=eq_false (by rw [<-hs];decide)
 have n19:(s = [76,67,77])=False:=eq_false (by rw [<-hs];decide)
 rw [hs] at hf
 simp only [List.map_cons] at hf
 simp (disch:=first|assumption|omega|(simp only [List.length_append,List.length_cons,List.length_nil];omega)) only [go_sem,reduceCtorEq,Nat.reduceEqDiff,Nat.reduceAdd,Nat.reduceSub,Nat.reduceMul,Nat.reduceLeDiff,Int.reduceLT,Int.reduceLE,Int.reduceEq,↓reduceIte,Int.reduceNeg,Int.reduceAdd,Int.reduceSub,Int.reduceMul,true_imp_iff,forall_const,Nat.mul_one,Int.reduceToNat,Nat.reducePow,Int.reducePow,Bool.true_and,Bool.false_and,Bool.and_false,hf,n0,n1,n2,n3,n4,n5,n6,n7,n8,n9,n10,n11,n12,n13,n14,n15,n16,n17,n18,n19]
 refine hX.use ?_
 simp (disch:=first|assumption|omega|(simp only [List.length_append,List.length_cons,List.length_nil];omega)) only [go_sem,reduceCtorEq,Nat.reduceEqDiff,Nat.reduceAdd,Nat.reduceSub,Nat.reduceMul,Nat.reduceLeDiff,Int.reduceLT,Int.reduceLE,Int.reduceEq,↓reduceIte,Int.reduceNeg,Int.reduceAdd,Int.reduceSub,Int.reduceMul,true_imp_iff,forall_const,Nat.mul_one,Int.reduceToNat,Nat.reducePow,Int.reducePow,Bool.true_and,Bool.false_and,Bool.and_false,hf,n0,n1,n2,n3,n4,n5,n6,n7,n8,n9,n10,n11,n12,n13,n14,n15,n16,n17,n18,n19]
 exact retC_by (by repeat' (first|exact Drop.refl _|with_reducible refine Drop.off ?_ (by assumption))) (.refl _) ⟨rfl,rfl⟩
set_option maxHeartbeats 1000000 in
theorem mk_ODD {σ:ASt} (hT:Tens σ) {a:Int} {T:List Int} (hl:T.length<=900) (ha:a.natAbs<=999999999999999999) (hT1:(secP (a::T) 0).natAbs<=999999999999999999) (hT2:(secP (a::T) 10000).natAbs<=999999999999999999):∀ (a1:AFr),(a1 0 = .str sODD/\a1 7 = .sl .shr ((a::T).map (AV.int .i64)))->ACode.wp Tryz.prog c10_123 (RetQ [.t 4] fun v σ'=>v=(cntP (intP (evenN a 1))).av/\σ'=σ) a1 σ:=by
 intro a1 hf
 have hX:=pair_ok 1 ha (by omega)
 rw [show ((1:Nat):Int)=1 from rfl] at hX
 generalize (cntP (intP (evenN a 1))).av=V at *
 obtain ⟨s,hs⟩:∃ s,sODD=s:=⟨_,rfl⟩
 have n0:(s = [65,66,83])=False:=eq_false (by rw [<-hs];decide)
 have n1:(s = [83,73,71,78])=False:=eq_false (by rw [<-hs];decide)
 have n2:(s = [73,78,84])=False:=eq_false (by rw [<-hs];decide)
 have n3:(s = [84,82,85,78,67])=False:=eq_false (by rw [<-hs];decide)
 have n4:(s = [82,79,85,78,68,68,79,87,78])=False:=eq_false (by rw [<-hs];decide)
 have n5:(s = [82,79,85,78,68])=False:=eq_false (by rw [<-hs];decide)
 have n6:(s = [82,79,85,78,68,85,80])=False:=eq_false (by rw [<-hs];decide)
 have n7:(s = [70,76,79,79,82])=False:=eq_false (by rw [<-hs];decide)
 have n8:(s = [67,69,73,76,73,78,71])=False:=eq_false (by rw [<-hs];decide)
 have n9:(s = [77,82,79,85,78,68])=False:=eq_false (by rw [<-hs];decide)
 have n10:(s = [77,79,68])=False:=eq_false (by rw [<-hs];decide)
 have n11:(s = [81,85,79,84,73,69,78,84])=False:=eq_false (by rw [<-hs];decide)
 have n12:(s = [80,79,87,69,82])=False:=eq_false (by rw [<-hs];decide)
 have n13:(s = [83,81,82,84])=False:=eq_false (by rw [<-hs];decide)
 have n14:(s = [70,65,67,84])=False:=eq_false (by rw [<-hs];decide)
 have n15:(s = [69,86,69,78])=False:=eq_false (by rw [<-hs];decide)
 have n16:(s = [79,68,68])=True:=eq_true (by rw [<-hs];decide)
 have n17:(s = [67,76,65,77,80])=False:=eq_false (by rw [<-hs];decide)
 have n18:(s = [71,67,68])=False:=eq_false (by rw [<-hs];decide)
 have n19:(s = [76,67,77])=False:=eq_false (by rw [<-hs];decide)
 rw [hs] at hf
 simp only [List.map_cons] at hf
 simp (disch:=first|assumption|omega|(simp only [List.length_append,List.length_cons,List.length_nil];omega)) only [go_sem,reduceCtorEq,Nat.reduceEqDiff,Nat.reduceAdd,Nat.reduceSub,Nat.reduceMul,Nat.reduceLeDiff,Int.reduceLT,Int.reduceLE,Int.reduceEq,↓reduceIte,Int.reduceNeg,Int.reduceAdd,Int.reduceSub,Int.reduceMul,true_imp_iff,forall_const,Nat.mul_one,Int.reduceToNat,Nat.reducePow,Int.reducePow,Bool.true_and,Bool.false_and,Bool.and_false,hf,n0,n1,n2,n3,n4,n5,n6,n7,n8,n9,n10,n11,n12,n13,n14,n15,n16,n17,n18,n19]
 refine hX.use ?_
 simp (disch:=first|assumption|omega|(simp only [List.length_append,List.length_cons,List.length_nil];omega)) only [go_sem,reduceCtorEq,Nat.reduceEqDiff,Nat.reduceAdd,Nat.reduceSub,Nat.reduceMul,Nat.reduceLeDiff,Int.reduceLT,Int.reduceLE,Int.reduceEq,↓reduceIte,Int.reduceNeg,Int.reduceAdd,Int.reduceSub,Int.reduceMul,true_imp_iff,forall_const,Nat.mul_one,Int.reduceToNat,Nat.reducePow,Int.reducePow,Bool.true_and,Bool.false_and,Bool.and_false,hf,n0,n1,n2,n3,n4,n5,n6,n7,n8,n9,n10,n11,n12,n13,n14,n15,n16,n17,n18,n19]
 exact retC_by (by repeat' (first|exact Drop.refl _|with_reducible refine Drop.off ?_ (by assumption))) (.refl _) ⟨rfl,rfl⟩
set_option maxHeartbeats 1000000 in
theorem mk_CLAMP {σ:ASt} (hT:Tens σ) {a b c:Int}:∀ (a1:AFr),(a1 0 = .str sCLAMP/\a1 7 = .sl .shr (([a,b,c]).map (AV.int .i64)))->ACode.wp Tryz.prog c10_123 (RetQ [.t 4] fun v σ'=>v=(clampV a b c).av/\σ'=σ) a1 σ:=by
 intro a1 hf
 unfold clampV
 obtain ⟨s,hs⟩:∃ s,sCLAMP=s:=⟨_,rfl⟩
 have n0:(s = [65,66,83])=False:=eq_false (by rw [<-hs];decide)
 have n1:(s = [83,73,71,78])=False:=eq_false (by rw [<-hs];decide)
 have n2:(s = [73,78,84])=False:=eq_false (by rw [<-hs];decide)
 have n3:(s = [84,82,85,78,67])=False:=eq_false (by rw [<-hs];decide)
 have n4:(s = [82,79,85,78,68,68,79,87,78])=False:=eq_false (by rw [<-hs];decide)
 have n5:(s = [82,79,85,78,68])=False:=eq_false (by rw [<-hs];decide)
 have n6:(s = [82,79,85,78,68,85,80])=False:=eq_false (by rw [<-hs];decide)
 have n7:(s = [70,76,79,79,82])=False:=eq_false (by rw [<-hs];decide)
 have n8:(s = [67,69,73,76,73,78,71])=False:=eq_false (by rw [<-hs];decide)
 have n9:(s = [77,82,79,85,78,68])=False:=eq_false (by rw [<-hs];decide)
 have n10:(s = [77,79,68])=False:=eq_false (by rw [<-hs];decide)
 have n11:(s = [81,85,79,84,73,69,78,84])=False:=eq_false (by rw [<-hs];decide)
 have n12:(s = [80,79,87,69,82])=False:=eq_false (by rw [<-hs];decide)
 have n13:(s = [83,81,82,84])=False:=eq_false (by rw [<-hs];decide)
 have n14:(s = [70,65,67,84])=False:=eq_false (by rw [<-hs];decide)
 have n15:(s = [69,86,69,78])=False:=eq_false (by rw [<-hs];decide)
 have n16:(s = [79,68,68])=False:=eq_false (by rw [<-hs];decide)
 have n17:(s = [67,76,65,77,80])=True:=eq_true (by rw [<-hs];decide)
 have n18:(s = [71,67,68])=False:=eq_false (by rw [<-hs];decide)
 have n19:(s = [76,67,77])=False:=eq_false (by rw [<-hs];decide)
 rw [hs] at hf
 simp only [List.map_cons,List.map_nil] at hf
 by_cases h0:c<b
 ·rw [if_pos h0]
  simp only [PV.av]
  simp (disch:=first|assumption|omega|(simp only [List.length_append,List.length_cons,List.length_nil];omega)) only [go_sem,reduceCtorEq,Nat.reduceEqDiff,Nat.reduceAdd,Nat.reduceSub,Nat.reduceMul,Nat.reduceLeDiff,Int.reduceLT,Int.reduceLE,Int.reduceEq,↓reduceIte,Int.reduceNeg,Int.reduceAdd,Int.reduceSub,Int.reduceMul,true_imp_iff,forall_const,Nat.mul_one,Int.reduceToNat,Nat.reducePow,Int.reducePow,Bool.true_and,Bool.false_and,Bool.and_false,hf,h0,n0,n1,n2,n3,n4,n5,n6,n7,n8,n9,n10,n11,n12,n13,n14,n15,n16,n17,n18,n19]
  exact retC_by (by repeat' (first|exact Drop.refl _|with_reducible refine Drop.off ?_ (by assumption))) (.refl _) ⟨rfl,rfl⟩
 rw [if_neg h0]
 simp only [PV.av]
 simp (disch:=first|assumption|omega|(simp only [List.length_append,List.length_cons,List.length_nil];omega)) only [go_sem,reduceCtorEq,Nat.reduceEqDiff,Nat.reduceAdd,Nat.reduceSub,Nat.reduceMul,Nat.reduceLeDiff,Int.reduceLT,Int.reduceLE,Int.reduceEq,↓reduceIte,Int.reduceNeg,Int.reduceAdd,Int.reduceSub,Int.reduceMul,true_imp_iff,forall_const,Nat.mul_one,Int.reduceToNat,Nat.reducePow,Int.reducePow,Bool.true_and,Bool.false_and,Bool.and_false,hf,h0,n0,n1,n2,n3,n4,n5,n6,n7,n8,n9,n10,n11,n12,n13,n14,n15,n16,n17,n18,n19]
 exact retC_by (by repeat' (first|exact Drop.refl _|with_reducible refine Drop.off ?_ (by assumption))) (.refl _) ⟨rfl,rfl⟩
set_option maxHeartbeats 1000000 in
theorem mk_GCD {σ:ASt} (hT:Tens σ) {N:List Int} (hn:N.length<=900) (h1:1<=N.length) (hN:∀ a∈N,a.natAbs<=999999999999999999):∀ (a1:AFr),(a1 0 = .str sGCD/\a1 7 = .sl .shr ((N).map (AV.int .i64)))->ACode.wp Tryz.prog c10_123 (RetQ [.t 4] fun v σ'=>v=(manyP true N).av/\σ'=σ) a1 σ:=by
 intro a1 hf
 obtain ⟨s,hs⟩:∃ s,sGCD=s:=⟨_,rfl⟩
 have n0:(s = [65,66,83])=False:=eq_false (by rw [<-hs];decide)
 have n1:(s = [83,73,71,78])=False:=eq_false (by rw [<-hs];decide)
 have n2:(s = [73,78,84])=False:=eq_false (by rw [<-hs];decide)
 have n3:(s = [84,82,85,78,67])=False:=eq_false (by rw [<-hs];decide)
 have n4:(s = [82,79,85,78,68,68,79,87,78])=False:=eq_false (by rw [<-hs];decide)
 have n5:(s = [82,79,85,78,68])=False:=eq_false (by rw [<-hs];decide)
 have n6:(s = [82,79,85,78,68,85,80])=False:=eq_false (by rw [<-hs];decide)
 have n7:(s = [70,76,79,79,82])=False:=eq_false (by rw [<-hs];decide)
 have n8:(s = [67,69,73,76,73,78,71])=False:=eq_false (by rw [<-hs];decide)
 have n9:(s = [77,82,79,85,78,68])=False:=eq_false (by rw [<-hs];decide)
 have n10:(s = [77,79,68])=False:=eq_false (by rw [<-hs];decide)
 have n11:(s = [81,85,79,84,73,69,78,84])=False:=eq_false (by rw [<-hs];decide)
 have n12:(s = [80,79,87,69,82])=False:=eq_false (by rw [<-hs];decide)
 have n13:(s = [83,81,82,84])=False:=eq_false (by rw [<-hs];decide)
 have n14:(s = [70,65,67,84])=False:=eq_false (by rw [<-hs];decide)
 have n15:(s = [69,86,69,78])=False:=eq_false (by rw [<-hs];decide)
 have n16:(s = [79,68,68])=False:=eq_false (by rw [<-hs];decide)
 have n17:(s = [67,76,65,77,80])=False:=eq_false (by rw [<-hs];decide)
 have n18:(s = [71,67,68])=True:=eq_true (by rw [<-hs];decide)
 have n19:(s = [76,67,77])=False:=eq_false (by rw [<-hs];decide)
 rw [hs] at hf
 obtain ⟨x,hx⟩:∃ x,N[0]? = some x:=⟨_,List.getElem?_eq_getElem (show 0<N.length by omega)⟩
 have hgx:=int_at hx
 have hX:=many_ok s N (by omega) hN
 rw [show decide (s = [71,67,68])=true from decide_eq_true (of_eq_true n18)] at hX
 generalize (manyP true N).av=V at *
 simp (disch:=first|assumption|omega|(simp only [List.length_append,List.length_cons,List.length_nil];omega)) only [go_sem,reduceCtorEq,Nat.reduceEqDiff,Nat.reduceAdd,Nat.reduceSub,Nat.reduceMul,Nat.reduceLeDiff,Int.reduceLT,Int.reduceLE,Int.reduceEq,↓reduceIte,Int.reduceNeg,Int.reduceAdd,Int.reduceSub,Int.reduceMul,true_imp_iff,forall_const,Nat.mul_one,Int.reduceToNat,Nat.reducePow,Int.reducePow,Bool.true_and,Bool.false_and,Bool.and_false,hf,hgx,n0,n1,n2,n3,n4,n5,n6,n7,n8,n9,n10,n11,n12,n13,n14,n15,n16,n17,n18,n19]
 refine hX.use ?_
 simp (disch:=first|assumption|omega|(simp only [List.length_append,List.length_cons,List.length_nil];omega)) only [go_sem,reduceCtorEq,Nat.reduceEqDiff,Nat.reduceAdd,Nat.reduceSub,Nat.reduceMul,Nat.reduceLeDiff,Int.reduceLT,Int.reduceLE,Int.reduceEq,↓reduceIte,Int.reduceNeg,Int.reduceAdd,Int.reduceSub,Int.reduceMul,true_imp_iff,forall_const,Nat.mul_one,Int.reduceToNat,Nat.reducePow,Int.reducePow,Bool.true_and,Bool.false_and,Bool.and_false,hf,n0,n1,n2,n3,n4,n5,n6,n7,n8,n9,n10,n11,n12,n13,n14,n15,n16,n17,n18,n19]
 exact retC_by (by repeat' (first|exact Drop.refl _|with_reducible refine Drop.off ?_ (by assumption))) (.refl _) ⟨rfl,rfl⟩
set_option maxHeartbeats 1000000 in
theorem mk_LCM {σ:ASt} (hT:Tens σ) {N:List Int} (hn:N.length<=900) (h1:1<=N.length) (hN:∀ a∈N,a.natAbs<=999999999999999999):∀ (a1:AFr),(a1 0 = .str sLCM/\a1 7 = .sl .shr ((N).map (AV.int .i64)))->ACode.wp Tryz.prog c10_123 (RetQ [.t 4] fun v σ'=>v=(manyP false N).av/\σ'=σ) a1 σ:=by
 intro a1 hf
 obtain ⟨s,hs⟩:∃ s,sLCM=s:=⟨_,rfl⟩
 have n0:(s = [65,66,83])=False:=eq_false (by rw [<-hs];decide)
 have n1:(s = [83,73,71,78])=False:=eq_false (by rw [<-hs];decide)
 have n2:(s = [73,78,84])=False:=eq_false (by rw [<-hs];decide)
 have n3:(s = [84,82,85,78,67])=False:=eq_false (by rw [<-hs];decide)
 have n4:(s = [82,79,85,78,68,68,79,87,78])=False:=eq_false (by rw [<-hs];decide)
 have n5:(s = [82,79,85,78,68])=False:=eq_false (by rw [<-hs];decide)
 have n6:(s = [82,79,85,78,68,85,80])=False:=eq_false (by rw [<-hs];decide)
 have n7:(s = [70,76,79,79,82])=False:=eq_false (by rw [<-hs];decide)
 have n8:(s = [67,69,73,76,73,78,71])=False:=eq_false (by rw [<-hs];decide)
 have n9:(s = [77,82,79,85,78,68])=False:=eq_false (by rw [<-hs];decide)
 have n10:(s = [77,79,68])=False:=eq_false (by rw [<-hs];decide)
 have n11:(s = [81,85,79,84,73,69,78,84])=False:=eq_false (by rw [<-hs];decide)
 have n12:(s = [80,79,87,69,82])=False:=eq_false (by rw [<-hs];decide)
 have n13:(s = [83,81,82,84])=False:=eq_false (by rw [<-hs];decide)
 have n14:(s = [70,65,67,84])=False:=eq_false (by rw [<-hs];decide)
 have n15:(s = [69,86,69,78])=False:=eq_false (by rw [<-hs];decide)
 have n16:(s = [79,68,68])=False:=eq_false (by rw [<-hs];decide)
 have n17:(s = [67,76,65,77,80])=False:=eq_false (by rw [<-hs];decide)
 have n18:(s = [71,67,68])=False:=eq_false (by rw [<-hs];decide)
 have n19:(s = [76,67,77])=True:=eq_true (by rw [<-hs];decide)
 rw [hs] at hf
 obtain ⟨x,hx⟩:∃ x,N[0]? = some x:=⟨_,List.getElem?_eq_getElem (show 0<N.length by omega)⟩
 have hgx:=int_at hx
 have hX:=many_ok s N (by omega) hN
 rw [show decide (s = [71,67,68])=false from decide_eq_false (of_eq_false n18)] at hX
 generalize (manyP false N).av=V at *
 simp (disch:=first|assumption|omega|(simp only [List.length_append,List.length_cons,List.length_nil];omega)) only [go_sem,reduceCtorEq,Nat.reduceEqDiff,Nat.reduceAdd,Nat.reduceSub,Nat.reduceMul,Nat.reduceLeDiff,Int.reduceLT,Int.reduceLE,Int.reduceEq,↓reduceIte,Int.reduceNeg,Int.reduceAdd,Int.reduceSub,Int.reduceMul,true_imp_iff,forall_const,Nat.mul_one,Int.reduceToNat,Nat.reducePow,Int.reducePow,Bool.true_and,Bool.false_and,Bool.and_false,hf,hgx,n0,n1,n2,n3,n4,n5,n6,n7,n8,n9,n10,n11,n12,n13,n14,n15,n16,n17,n18,n19]
 refine hX.use ?_
 simp (disch:=first|assumption|omega|(simp only [List.length_append,List.length_cons,List.length_nil];omega)) only [go_sem,reduceCtorEq,Nat.reduceEqDiff,Nat.reduceAdd,Nat.reduceSub,Nat.reduceMul,Nat.reduceLeDiff,Int.reduceLT,Int.reduceLE,Int.reduceEq,↓reduceIte,Int.reduceNeg,Int.reduceAdd,Int.reduceSub,Int.reduceMul,true_imp_iff,forall_const,Nat.mul_one,Int.reduceToNat,Nat.reducePow,Int.reducePow,Bool.true_and,Bool.false_and,Bool.and_false,hf,n0,n1,n2,n3,n4,n5,n6,n7,n8,n9,n10,n11,n12,n13,n14,n15,n16,n17,n18,n19]
 exact retC_by (by repeat' (first|exact Drop.refl _|with_reducible refine Drop.off ?_ (by assumption))) (.refl _) ⟨rfl,rfl⟩
end Go.A
namespace Go.A
open Go.Proofs
/-! 12: tabular/tabularref16.Call -/
def c12_31:ACode := .seq (.ops [ oq 40 (.bin .lss (.t 39) (.t 38))]) (.seq (.cond (.t 40) .skip (.exit 0)) (.seq (.block 1 (.seq (.ops [ oq 41 (.ia 3 (.t 37) (.t 39)),oq 42 (.ld (some 3) (.t 41)),oe 9 (.alloc [(.int .i64 0),(.int .i64 0),(.str [])]),oz (.store 3 (.t 9) (.t 42))]) (.seq (.ops [ oq 44 (.ld (some 3) (.t 9)),oe 45 (.call 39 [(.t 44)]),oq 43 (.mv (.t 45)),oq 46 (.ext 0 (.t 43)),oq 47 (.ext 1 (.t 43)),oq 10 (.mv (.t 46)),oq 11 (.mv (.t 47))]) (.seq (.seq (.ops [ oq 48 (.mv (.t 11)),oq 49 (.bin .neq (.t 48) (.v (.int .i64 0)))]) (.cond (.t 49) (.seq (.ops [ oq 50 (.mv (.t 11)),oe 51 (.call 38 [(.t 50)]),oz (.store 3 (.t 4) (.t 51))]) .ret) .skip)) (.ops [ oq 52 (.mv (.t 7)),oq 53 (.mv (.t 10)),oq 54 (.bsl 1 [(.t 53)]),oe 55 (.app 2 1 8 [(.int .i64 0)] (.t 52) (.t 54)),oq 7 (.mv (.t 55))]))))) (.ops [ oq 56 (.bin .add (.t 39) (.v (.int .i64 1))),oq 39 (.mv (.t 56))])))
def c12_121:ACode := .seq (.ops [ oq 159 (.mv (.t 12)),oe 160 (.call 41 [(.t 159)]),oq 161 (.conv .i64 (.t 160)),oq 162 (.mv (.t 14)),oe 163 (.call 41 [(.t 162)]),oq 164 (.conv .i64 (.t 163)),oe 165 (.call 48 [(.t 161),(.t 164)]),oq 158 (.mv (.t 165)),oq 166 (.ext 0 (.t 158)),oq 167 (.ext 1 (.t 158)),oq 15 (.mv (.t 166)),oq 16 (.mv (.t 167))]) (.seq (.seq (.ops [ oq 168 (.mv (.t 12)),oq 169 (.bin .lss (.t 168) (.v (.int .i64 0)))]) (.cond (.t 169) (.ops [ oq 170 (.mv (.t 15)),oq 171 (.un .neg (.t 170)),oq 15 (.mv (.t 171))]) .skip)) (.seq (.ops [ oq 172 (.mv (.t 15)),oq 173 (.mv (.t 16)),oe 174 (.call 42 [(.t 172),(.t 173)]),oz (.store 3 (.t 4) (.t 174))]) .ret))
def c12_196:ACode := .cond (.t 184) (.seq (.seq (.ops [ oq 186 (.mv (.t 14)),oq 187 (.bin .eql (.t 186) (.v (.int .i64 0)))]) (.cond (.t 187) (.seq (.ops [ oe 188 (.call 38 [(.v (.int .i64 1))]),oz (.store 3 (.t 4) (.t 188))]) .ret) .skip)) (.seq (.ops [ oq 189 (.mv (.t 12)),oq 190 (.mv (.t 14)),oq 191 (.bin .quo (.t 189) (.t 190)),oe 192 (.call 50 [(.t 191)]),oz (.store 3 (.t 4) (.t 192))]) .ret)) (.seq (.ops [ oq 194 (.bin .eql (.t 72) (.v (.str [80,79,87,69,82]))),oq 193 (.mv (.t 194))]) (.cond (.t 193) (.seq (.ops [ oq 195 (.mv (.t 12)),oq 196 (.mv (.t 14)),oe 197 (.call 51 [(.t 195),(.t 196)]),oz (.store 3 (.t 4) (.t 197))]) .ret) (.seq (.ops [ oq 199 (.bin .eql (.t 72) (.v (.str [83,81,82,84]))),oq 198 (.mv (.t 199))]) (.cond (.t 198) (.seq (.seq (.ops [ oq 200 (.mv (.t 12)),oq 201 (.bin .lss (.t 200) (.v (.int .i64 0)))]) (.cond (.t 201) (.seq (.ops [ oe 202 (.call 38 [(.v (.int .i64 2))]),oz (.store 3 (.t 4) (.t 202))]) .ret) .skip)) (.seq (.ops [ oq 203 (.mv (.t 12)),oe 204 (.call 52 [(.t 203)]),oe 205 (.call 40 [(.t 204)]),oz (.store 3 (.t 4) (.t 205))]) .ret)) (.seq (.ops [ oq 207 (.bin .eql (.t 72) (.v (.str [70,65,67,84]))),oq 206 (.mv (.t 207))]) (.cond (.t 206) (.seq (.ops [ oq 208 (.mv (.t 12)),oe 209 (.call 53 [(.t 208)]),oz (.store 3 (.t 4) (.t 209))]) .ret) (.seq (.ops [ oq 211 (.bin .eql (.t 72) (.v (.str [69,86,69,78]))),oq 210 (.mv (.t 211))]) (.cond (.t 210) (.seq (.ops [ oq 212 (.mv (.t 12)),oe 213 (.call 54 [(.t 212),(.v (.int .i64 0))]),oz (.store 3 (.t 4) (.t 213))]) .ret) (.seq (.ops [ oq 215 (.bin .eql (.t 72) (.v (.str [79,68,68]))),oq 214 (.mv (.t 215))]) (.cond (.t 214) (.seq (.ops [ oq 216 (.mv (.t 12)),oe 217 (.call 54 [(.t 216),(.v (.int .i64 1))]),oz (.store 3 (.t 4) (.t 217))]) .ret) (.seq (.ops [ oq 219 (.bin .eql (.t 72) (.v (.str [67,76,65,77,80]))),oq 218 (.mv (.t 219))]) (.cond (.t 218) (.seq (.seq (.ops [ oq 220 (.mv (.t 7)),oq 221 (.ia 1 (.t 220) (.v (.int .i64 1))),oq 222 (.ld none (.t 221)),oq 223 (.mv (.t 7)),oq 224 (.ia 1 (.t 223) (.v (.int .i64 2))),oq 225 (.ld none (.t 224)),oq 226 (.bin .gtr (.t 222) (.t 225))]) (.cond (.t 226) (.seq (.ops [ oe 227 (.call 38 [(.v (.int .i64 2))]),oz (.store 3 (.t 4) (.t 227))]) .ret) .skip)) (.seq (.seq (.ops [ oq 228 (.mv (.t 12)),oq 229 (.mv (.t 7)),oq 230 (.ia 1 (.t 229) (.v (.int .i64 1))),oq 231 (.ld none (.t 230)),oq 232 (.bin .lss (.t 228) (.t 231))]) (.cond (.t 232) (.seq (.ops [ oq 233 (.mv (.t 7)),oq 234 (.ia 1 (.t 233) (.v (.int .i64 1))),oq 235 (.ld none (.t 234)),oe 236 (.call 40 [(.t 235)]),oz (.store 3 (.t 4) (.t 236))]) .ret) .skip)) (.seq (.seq (.ops [ oq 237 (.mv (.t 12)),oq 238 (.mv (.t 7)),oq 239 (.ia 1 (.t 238) (.v (.int .i64 2))),oq 240 (.ld none (.t 239)),oq 241 (.bin .gtr (.t 237) (.t 240))]) (.cond (.t 241) (.seq (.ops [ oq 242 (.mv (.t 7)),oq 243 (.ia 1 (.t 242) (.v (.int .i64 2))),oq 244 (.ld none (.t 243)),oe 245 (.call 40 [(.t 244)]),oz (.store 3 (.t 4) (.t 245))]) .ret) .skip)) (.seq (.ops [ oq 246 (.mv (.t 12)),oe 247 (.call 40 [(.t 246)]),oz (.store 3 (.t 4) (.t 247))]) .ret)))) .skip))))))))))))
def c12_203:ACode := .seq (.seq (.ops [ oq 116 (.bin .eql (.t 72) (.v (.str [70,76,79,79,82]))),oq 115 (.mv (.t 116))]) (.cond (.t 115) .skip (.ops [ oq 117 (.bin .eql (.t 72) (.v (.str [67,69,73,76,73,78,71]))),oq 115 (.mv (.t 117))]))) (.cond (.t 115) (.seq (.seq (.ops [ oq 118 (.mv (.t 14)),oq 119 (.bin .eql (.t 118) (.v (.int .i64 0)))]) (.cond (.t 119) (.seq (.ops [ oe 120 (.call 40 [(.v (.int .i64 0))]),oz (.store 3 (.t 4) (.t 120))]) .ret) .skip)) (.seq (.seq (.ops [ oq 121 (.mv (.t 14)),oq 122 (.bin .lss (.t 121) (.v (.int .i64 0)))]) (.cond (.t 122) (.seq (.ops [ oe 123 (.call 38 [(.v (.int .i64 2))]),oz (.store 3 (.t 4) (.t 123))]) .ret) .skip)) (.seq (.seq (.ops [ oq 124 (.mv (.t 0)),oq 125 (.bin .eql (.t 124) (.v (.str [70,76,79,79,82])))]) (.cond (.t 125) (.seq (.ops [ oq 126 (.mv (.t 12)),oq 127 (.mv (.t 14)),oe 128 (.call 43 [(.t 126),(.t 127)]),oq 129 (.ext 0 (.t 128)),oq 130 (.ext 1 (.t 128)),oe 131 (.call 42 [(.t 129),(.t 130)]),oz (.store 3 (.t 4) (.t 131))]) .ret) .skip)) (.seq (.ops [ oq 132 (.mv (.t 12)),oq 133 (.mv (.t 14)),oe 134 (.call 47 [(.t 132),(.t 133)]),oq 135 (.ext 0 (.t 134)),oq 136 (.ext 1 (.t 134)),oe 137 (.call 42 [(.t 135),(.t 136)]),oz (.store 3 (.t 4) (.t 137))]) .ret)))) (.seq (.ops [ oq 139 (.bin .eql (.t 72) (.v (.str [77,82,79,85,78,68]))),oq 138 (.mv (.t 139))]) (.cond (.t 138) (.seq (.seq (.ops [ oq 140 (.mv (.t 14)),oq 141 (.bin .eql (.t 140) (.v (.int .i64 0)))]) (.cond (.t 141) (.seq (.ops [ oe 142 (.call 40 [(.v (.int .i64 0))]),oz (.store 3 (.t 4) (.t 142))]) .ret) .skip)) (.seq (.seq (.ops [ oq 143 (.mv (.t 12)),oq 144 (.bin .lss (.t 143) (.v (.int .i64 0))),oq 145 (.mv (.t 144)),⟨some 146,some (145,true),.q (.mv (.t 14)),[]⟩,⟨some 147,some (145,true),.q (.bin .gtr (.t 146) (.v (.int .i64 0))),[]⟩,oq 148 (.pick (.t 145) (.t 147) (.v (.bool false))),oq 149 (.mv (.t 148)),⟨some 150,some (149,false),.q (.mv (.t 12)),[]⟩,⟨some 151,some (149,false),.q (.bin .gtr (.t 150) (.v (.int .i64 0))),[]⟩,⟨some 152,some (149,false),.q (.mv (.t 151)),[]⟩,⟨some 153,some (152,true),.q (.mv (.t 14)),[]⟩,⟨some 154,some (152,true),.q (.bin .lss (.t 153) (.v (.int .i64 0))),[]⟩,⟨some 155,some (149,false),.q (.pick (.t 152) (.t 154) (.v (.bool false))),[]⟩,oq 156 (.pick (.t 149) (.v (.bool true)) (.t 155))]) (.cond (.t 156) (.seq (.ops [ oe 157 (.call 38 [(.v (.int .i64 2))]),oz (.store 3 (.t 4) (.t 157))]) .ret) .skip)) c12_121)) (.seq (.ops [ oq 176 (.bin .eql (.t 72) (.v (.str [77,79,68]))),oq 175 (.mv (.t 176))]) (.cond (.t 175) (.seq (.seq (.ops [ oq 177 (.mv (.t 14)),oq 178 (.bin .eql (.t 177) (.v (.int .i64 0)))]) (.cond (.t 178) (.seq (.ops [ oe 179 (.call 38 [(.v (.int .i64 1))]),oz (.store 3 (.t 4) (.t 179))]) .ret) .skip)) (.seq (.ops [ oq 180 (.mv (.t 12)),oq 181 (.mv (.t 14)),oe 182 (.call 49 [(.t 180),(.t 181)]),oe 183 (.call 40 [(.t 182)]),oz (.store 3 (.t 4) (.t 183))]) .ret)) (.seq (.ops [ oq 185 (.bin .eql (.t 72) (.v (.str [81,85,79,84,73,69,78,84]))),oq 184 (.mv (.t 185))]) c12_196))))))
def c12_219:ACode := .seq (.ops [ oq 248 (.mv (.t 7)),oq 249 (.mv (.t 0)),oq 250 (.bin .eql (.t 249) (.v (.str [76,67,77]))),oe 251 (.call 55 [(.t 248),(.t 250)]),oz (.store 3 (.t 4) (.t 251))]) .ret
def c12_220:ACode := .seq (.seq (.ops [ oq 72 (.mv (.t 0))]) (.block 2 (.seq (.ops [ oq 74 (.bin .eql (.t 72) (.v (.str [65,66,83]))),oq 73 (.mv (.t 74))]) (.cond (.t 73) (.seq (.ops [ oq 75 (.mv (.t 12)),oe 76 (.call 41 [(.t 75)]),oq 77 (.conv .i64 (.t 76)),oe 78 (.call 40 [(.t 77)]),oz (.store 3 (.t 4) (.t 78))]) .ret) (.seq (.ops [ oq 80 (.bin .eql (.t 72) (.v (.str [83,73,71,78]))),oq 79 (.mv (.t 80))]) (.cond (.t 79) (.seq (.seq (.ops [ oq 81 (.mv (.t 12)),oq 82 (.bin .lss (.t 81) (.v (.int .i64 0)))]) (.cond (.t 82) (.seq (.ops [ oe 83 (.call 40 [(.v (.int .i64 (-10000)))]),oz (.store 3 (.t 4) (.t 83))]) .ret) .skip)) (.seq (.seq (.ops [ oq 84 (.mv (.t 12)),oq 85 (.bin .gtr (.t 84) (.v (.int .i64 0)))]) (.cond (.t 85) (.seq (.ops [ oe 86 (.call 40 [(.v (.int .i64 10000))]),oz (.store 3 (.t 4) (.t 86))]) .ret) .skip)) (.seq (.ops [ oe 87 (.call 40 [(.v (.int .i64 0))]),oz (.store 3 (.t 4) (.t 87))]) .ret))) (.seq (.ops [ oq 89 (.bin .eql (.t 72) (.v (.str [73,78,84]))),oq 88 (.mv (.t 89))]) (.cond (.t 88) (.seq (.ops [ oq 90 (.mv (.t 12)),oe 91 (.call 43 [(.t 90),(.v (.int .i64 10000))]),oq 92 (.ext 0 (.t 91)),oq 93 (.ext 1 (.t 91)),oe 94 (.call 42 [(.t 92),(.t 93)]),oz (.store 3 (.t 4) (.t 94))]) .ret) (.seq (.seq (.ops [ oq 96 (.bin .eql (.t 72) (.v (.str [84,82,85,78,67]))),oq 95 (.mv (.t 96))]) (.cond (.t 95) .skip (.ops [ oq 97 (.bin .eql (.t 72) (.v (.str [82,79,85,78,68,68,79,87,78]))),oq 95 (.mv (.t 97))]))) (.cond (.t 95) (.seq (.ops [ oq 98 (.mv (.t 12)),oq 99 (.mv (.t 13)),oe 100 (.call 44 [(.t 98),(.t 99)]),oe 101 (.call 40 [(.t 100)]),oz (.store 3 (.t 4) (.t 101))]) .ret) (.seq (.ops [ oq 103 (.bin .eql (.t 72) (.v (.str [82,79,85,78,68]))),oq 102 (.mv (.t 103))]) (.cond (.t 102) (.seq (.ops [ oq 104 (.mv (.t 12)),oq 105 (.mv (.t 13)),oe 106 (.call 45 [(.t 104),(.t 105)]),oq 107 (.ext 0 (.t 106)),oq 108 (.ext 1 (.t 106)),oe 109 (.call 42 [(.t 107),(.t 108)]),oz (.store 3 (.t 4) (.t 109))]) .ret) (.seq (.ops [ oq 111 (.bin .eql (.t 72) (.v (.str [82,79,85,78,68,85,80]))),oq 110 (.mv (.t 111))]) (.cond (.t 110) (.seq (.ops [ oq 112 (.mv (.t 12)),oq 113 (.mv (.t 13)),oe 114 (.call 46 [(.t 112),(.t 113)]),oz (.store 3 (.t 4) (.t 114))]) .ret) c12_203)))))))))))))) c12_219
def c12_224:ACode := .seq (.ops [ oq 57 (.mv (.t 7)),oq 58 (.ia 1 (.t 57) (.v (.int .i64 0))),oq 59 (.ld none (.t 58)),oq 12 (.mv (.t 59))]) (.seq (.ops [ oq 13 (.mv (.v (.int .i64 0)))]) (.seq (.ops [ oq 14 (.mv (.v (.int .i64 10000)))]) (.seq (.seq (.ops [ oq 60 (.mv (.t 7)),oq 61 (.len (.t 60)),oq 62 (.bin .gtr (.t 61) (.v (.int .i64 1)))]) (.cond (.t 62) (.seq (.ops [ oq 63 (.mv (.t 7)),oq 64 (.ia 1 (.t 63) (.v (.int .i64 1))),oq 65 (.ld none (.t 64)),oq 66 (.bin .quo (.t 65) (.v (.int .i64 10000))),oq 67 (.mnx false (.t 66) (.v (.int .i64 20))),oq 68 (.mnx true (.t 67) (.v (.int .i64 (-20)))),oq 13 (.mv (.t 68))]) (.ops [ oq 69 (.mv (.t 7)),oq 70 (.ia 1 (.t 69) (.v (.int .i64 1))),oq 71 (.ld none (.t 70)),oq 14 (.mv (.t 71))])) .skip)) c12_220)))
def c12_230:ACode := .seq (.ops [ oe 4 (.alloc [(.int .i64 0),(.int .i64 0),(.str [])])]) (.seq (.ops [ oq 18 (.mv (.t 0)),oe 19 (.call 16 [(.t 18)]),oq 17 (.mv (.t 19)),oq 20 (.ext 0 (.t 17)),oq 21 (.ext 1 (.t 17)),oq 5 (.mv (.t 20)),oq 6 (.mv (.t 21))]) (.seq (.seq (.ops [ oq 22 (.mv (.t 6)),oq 23 (.bin .eql (.t 22) (.v (.int .i64 0)))]) (.cond (.t 23) (.seq (.ops [ oe 24 (.call 38 [(.v (.int .i64 6))]),oz (.store 3 (.t 4) (.t 24))]) .ret) .skip)) (.seq (.seq (.ops [ oq 25 (.mv (.t 1)),oq 26 (.len (.t 25)),oq 27 (.mv (.t 5)),oq 28 (.bin .lss (.t 26) (.t 27)),oq 29 (.mv (.t 28)),⟨some 30,some (29,false),.q (.mv (.t 1)),[]⟩,⟨some 31,some (29,false),.q (.len (.t 30)),[]⟩,⟨some 32,some (29,false),.q (.mv (.t 6)),[]⟩,⟨some 33,some (29,false),.q (.bin .gtr (.t 31) (.t 32)),[]⟩,oq 34 (.pick (.t 29) (.v (.bool true)) (.t 33))]) (.cond (.t 34) (.seq (.ops [ oe 35 (.call 38 [(.v (.int .i64 3))]),oz (.store 3 (.t 4) (.t 35))]) .ret) .skip)) (.seq (.ops [ oq 36 (.bsl 1 []),oq 7 (.mv (.t 36))]) (.seq (.seq (.ops [ oq 37 (.mv (.t 1)),oq 38 (.len (.t 37)),oq 39 (.mv (.v (.int .i64 0)))]) (.block 0 (.loop c12_31))) c12_224)))))
@[go_sem] def c12_31_wp:=wp_of c12_31.eq_1
@[go_sem] def c12_121_wp:=wp_of c12_121.eq_1
@[go_sem] def c12_196_wp:=wp_of c12_196.eq_1
@[go_sem] def c12_203_wp:=wp_of c12_203.eq_1
@[go_sem] def c12_219_wp:=wp_of c12_219.eq_1
@[go_sem] def c12_220_wp:=wp_of c12_220.eq_1
@[go_sem] def c12_224_wp:=wp_of c12_224.eq_1
@[go_sem] def c12_230_wp:=wp_of c12_230.eq_1
def c12:AFn:=⟨252,[.c 4 (some 3)],c12_230⟩
theorem c12_ok:compF Tryz.prog Tryz.f12=some c12:=by kernel_rfl
theorem a12 {args:List AV} {σ:ASt} {R:AV->ASt->Prop} (hl:args.length<=252) (h:c12_230.wp Tryz.prog (RetQ [.c 4 (some 3)] R) (init args) σ):ACalls Tryz.prog 12 args σ R:=acalls_of Tryz.func12 c12_ok hl h
end Go.A
