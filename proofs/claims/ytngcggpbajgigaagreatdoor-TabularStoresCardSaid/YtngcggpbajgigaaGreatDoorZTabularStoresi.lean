/- Part 9 of what TabularStores leans on: CodeNzo Nzo CodeNzp CodeNzq CodeNzr CodeNzs Nzs CodeNzt CodeNzu CodeNzv CodeNzw Nzx Nzy CodeNyc Nyc Sta CodeSla Sla Slb CodeSlc Slc CodeSld. -/
import Derived.Test.YtngcggpbajgigaaGreatDoorProg
import Derived.KernelRfl
import Derived.Test.YtngcggpbajgigaaGreatDoorZTabularStoresh
set_option linter.defProp false
set_option linter.unusedSimpArgs false
set_option linter.unusedVariables false
set_option maxRecDepth 100000
namespace Go.A
open Go.Proofs
/-! 17: (*tabular/seq.Seq).Len -/
def c17_11:ACode := .seq (.ops [ oq 2 (.mv (.v (.int .i64 0))),oq 3 (.mv (.v (.int .i64 0)))]) (.seq (.ops [ oq 7 (.mv (.t 0)),oq 8 (.mv (.t 0)),oq 9 (.nc (.t 8)),oq 10 (.fa 1 (.t 9)),oq 11 (.ld none (.t 10)),oe 12 (.call 53 [(.t 7),(.t 11)]),oq 6 (.mv (.t 12)),oq 13 (.ext 0 (.t 6)),oq 14 (.ext 1 (.t 6)),oq 4 (.mv (.t 13)),oq 5 (.mv (.t 14))]) (.seq (.seq (.ops [ oq 15 (.mv (.t 5)),oq 16 (.bin .neq (.t 15) (.v (.int .i64 0)))]) (.cond (.t 16) (.seq (.ops [ oq 17 (.mv (.t 5)),oq 2 (.mv (.v (.int .i64 0))),oq 3 (.mv (.t 17))]) .ret) .skip)) (.seq (.ops [ oq 18 (.mv (.t 4)),oe 19 (.call 59 [(.t 18)]),oq 2 (.mv (.t 19)),oq 3 (.mv (.v (.int .i64 0)))]) .ret)))
@[go_sem] def c17_11_wp:=wp_of c17_11.eq_1
def c17:AFn:=⟨20,[.t 2,.t 3],c17_11⟩
theorem c17_ok:compF Tryz.prog Tryz.f17=some c17:=by kernel_rfl
theorem a17 {args:List AV} {σ:ASt} {R:AV->ASt->Prop} (hl:args.length<=20) (h:c17_11.wp Tryz.prog (RetQ [.t 2,.t 3] R) (init args) σ):ACalls Tryz.prog 17 args σ R:=acalls_of Tryz.func17 c17_ok hl h
/-! 56: (*tabular/seq.Seq).down -/
def c56_24:ACode := .seq (.seq (.ops [ oq 34 (.mv (.t 11)),oq 35 (.mv (.t 9)),oq 36 (.nc (.t 35)),oq 37 (.fa 3 (.t 36)),oq 38 (.ld none (.t 37)),oq 39 (.len (.t 38)),oq 40 (.bin .sub (.t 39) (.v (.int .i64 1))),oq 41 (.bin .lss (.t 34) (.t 40)),oq 42 (.mv (.t 41)),⟨some 43,some (42,true),.q (.mv (.t 1)),[]⟩,⟨some 44,some (42,true),.q (.mv (.t 9)),[]⟩,⟨some 45,some (42,true),.q (.nc (.t 44)),[]⟩,⟨some 46,some (42,true),.q (.fa 4 (.t 45)),[]⟩,⟨some 47,some (42,true),.q (.ld none (.t 46)),[]⟩,⟨some 48,some (42,true),.q (.mv (.t 11)),[]⟩,⟨some 49,some (42,true),.q (.ia 1 (.t 47) (.t 48)),[]⟩,⟨some 50,some (42,true),.q (.ld none (.t 49)),[]⟩,⟨some 51,some (42,true),.q (.bin .geq (.t 43) (.t 50)),[]⟩,oq 52 (.pick (.t 42) (.t 51) (.v (.bool false)))]) (.cond (.t 52) .skip (.exit 2))) (.block 3 (.seq (.ops [ oq 53 (.mv (.t 1)),oq 54 (.mv (.t 9)),oq 55 (.nc (.t 54)),oq 56 (.fa 4 (.t 55)),oq 57 (.ld none (.t 56)),oq 58 (.mv (.t 11)),oq 59 (.ia 1 (.t 57) (.t 58)),oq 60 (.ld none (.t 59)),oq 61 (.bin .sub (.t 53) (.t 60)),oq 1 (.mv (.t 61))]) (.ops [ oq 62 (.mv (.t 11)),oq 63 (.bin .add (.t 62) (.v (.int .i64 1))),oq 11 (.mv (.t 63))])))
def c56_41:ACode := .seq (.ops [ oq 17 (.bin .lss (.t 16) (.v (.int .i64 20)))]) (.seq (.cond (.t 17) .skip (.exit 0)) (.seq (.block 1 (.seq (.ops [ oq 19 (.mv (.t 0)),oq 20 (.mv (.t 8)),oe 21 (.call 53 [(.t 19),(.t 20)]),oq 18 (.mv (.t 21)),oq 22 (.ext 0 (.t 18)),oq 23 (.ext 1 (.t 18)),oq 9 (.mv (.t 22)),oq 10 (.mv (.t 23))]) (.seq (.seq (.ops [ oq 24 (.mv (.t 10)),oq 25 (.bin .neq (.t 24) (.v (.int .i64 0)))]) (.cond (.t 25) (.seq (.ops [ oq 26 (.mv (.t 10)),oq 4 (.mv (.v .nilp)),oq 5 (.mv (.v (.int .i64 0))),oq 6 (.mv (.v (.int .i64 0))),oq 7 (.mv (.t 26))]) .ret) .skip)) (.seq (.seq (.ops [ oq 27 (.mv (.t 9)),oq 28 (.nc (.t 27)),oq 29 (.fa 0 (.t 28)),oq 30 (.ld none (.t 29))]) (.cond (.t 30) (.seq (.ops [ oq 31 (.mv (.t 9)),oq 32 (.mv (.t 8)),oq 33 (.mv (.t 1)),oq 4 (.mv (.t 31)),oq 5 (.mv (.t 32)),oq 6 (.mv (.t 33)),oq 7 (.mv (.v (.int .i64 0)))]) .ret) .skip)) (.seq (.ops [ oq 11 (.mv (.v (.int .i64 0)))]) (.seq (.block 2 (.loop c56_24)) (.seq (.seq (.ops [ oq 64 (.mv (.t 9)),oq 65 (.nc (.t 64)),oq 66 (.fa 3 (.t 65)),oq 67 (.ld none (.t 66)),oq 68 (.len (.t 67)),oq 69 (.bin .eql (.t 68) (.v (.int .i64 0)))]) (.cond (.t 69) (.exit 0) .skip)) (.ops [ oq 70 (.mv (.t 9)),oq 71 (.nc (.t 70)),oq 72 (.fa 3 (.t 71)),oq 73 (.ld none (.t 72)),oq 74 (.mv (.t 11)),oq 75 (.ia 1 (.t 73) (.t 74)),oq 76 (.ld none (.t 75)),oq 8 (.mv (.t 76))])))))))) (.ops [ oq 77 (.bin .add (.t 16) (.v (.int .i64 1))),oq 16 (.mv (.t 77))])))
def c56_49:ACode := .seq (.ops [ oq 4 (.mv (.v .nilp)),oq 5 (.mv (.v (.int .i64 0))),oq 6 (.mv (.v (.int .i64 0))),oq 7 (.mv (.v (.int .i64 0)))]) (.seq (.ops [ oq 12 (.mv (.t 0)),oq 13 (.nc (.t 12)),oq 14 (.fa 1 (.t 13)),oq 15 (.ld none (.t 14)),oq 8 (.mv (.t 15))]) (.seq (.seq (.ops [ oq 16 (.mv (.v (.int .i64 0)))]) (.block 0 (.loop c56_41))) (.seq (.ops [ oq 4 (.mv (.v .nilp)),oq 5 (.mv (.v (.int .i64 0))),oq 6 (.mv (.v (.int .i64 0))),oq 7 (.mv (.v (.int .i64 3)))]) .ret)))
@[go_sem] def c56_41_wp:=wp_of c56_41.eq_1
@[go_sem] def c56_49_wp:=wp_of c56_49.eq_1
def c56:AFn:=⟨78,[.t 4,.t 5,.t 6,.t 7],c56_49⟩
theorem c56_ok:compF Tryz.prog Tryz.f56=some c56:=by kernel_rfl
theorem a56 {args:List AV} {σ:ASt} {R:AV->ASt->Prop} (hl:args.length<=78) (h:c56_49.wp Tryz.prog (RetQ [.t 4,.t 5,.t 6,.t 7] R) (init args) σ):ACalls Tryz.prog 56 args σ R:=acalls_of Tryz.func56 c56_ok hl h
/-! 59: (*tabular/seq.node).count -/
def c59_17:ACode := .seq (.ops [ oq 21 (.bin .lss (.t 20) (.t 19))]) (.seq (.cond (.t 21) .skip (.exit 0)) (.seq (.block 1 (.seq (.ops [ oq 22 (.ia 1 (.t 18) (.t 20)),oq 23 (.ld none (.t 22)),oq 5 (.mv (.t 23))]) (.ops [ oq 24 (.mv (.t 3)),oq 25 (.mv (.t 5)),oq 26 (.bin .add (.t 24) (.t 25)),oq 3 (.mv (.t 26))]))) (.ops [ oq 27 (.bin .add (.t 20) (.v (.int .i64 1))),oq 20 (.mv (.t 27))])))
def c59_26:ACode := .seq (.ops [ oq 2 (.mv (.v (.int .i64 0)))]) (.seq (.seq (.ops [ oq 6 (.mv (.t 0)),oq 7 (.nc (.t 6)),oq 8 (.fa 0 (.t 7)),oq 9 (.ld none (.t 8))]) (.cond (.t 9) (.seq (.ops [ oq 10 (.mv (.t 0)),oq 11 (.nc (.t 10)),oq 12 (.fa 2 (.t 11)),oq 13 (.ld none (.t 12)),oq 14 (.len (.t 13)),oq 2 (.mv (.t 14))]) .ret) .skip)) (.seq (.ops [ oq 3 (.mv (.v (.int .i64 0)))]) (.seq (.seq (.ops [ oq 15 (.mv (.t 0)),oq 16 (.nc (.t 15)),oq 17 (.fa 4 (.t 16)),oq 18 (.ld none (.t 17)),oq 19 (.len (.t 18)),oq 20 (.mv (.v (.int .i64 0)))]) (.block 0 (.loop c59_17))) (.seq (.ops [ oq 28 (.mv (.t 3)),oq 2 (.mv (.t 28))]) .ret))))
@[go_sem] def c59_26_wp:=wp_of c59_26.eq_1
def c59:AFn:=⟨29,[.t 2],c59_26⟩
theorem c59_ok:compF Tryz.prog Tryz.f59=some c59:=by kernel_rfl
theorem a59 {args:List AV} {σ:ASt} {R:AV->ASt->Prop} (hl:args.length<=29) (h:c59_26.wp Tryz.prog (RetQ [.t 2] R) (init args) σ):ACalls Tryz.prog 59 args σ R:=acalls_of Tryz.func59 c59_ok hl h
end Go.A
section
attribute [local go_sem] reduceCtorEq Nat.reduceEqDiff Nat.reduceAdd Nat.reduceSub Nat.reduceMul Nat.reduceLeDiff Int.reduceLT Int.reduceLE Int.reduceEq Int.reduceNeg Int.reduceAdd Int.reduceSub Int.reduceMul true_imp_iff forall_const Nat.mul_one Int.reduceToNat Nat.reducePow Int.reducePow Bool.true_and Bool.false_and Bool.and_false
attribute [local go_sem ↓] reduceIte
namespace Go.A
open Go.Proofs
section
variable {base base' σ σ':ASt} {p k page t root troot n s up:Nat} {m:PX} {pg:Pgs} {ids ds cs:List Nat} {r:Role}
theorem sqcount_leaf (hn:σ n=some r) (hr:SNodeR r (.leaf up ids)):ACalls Tryz.prog 59 [.ptr n 0] σ fun v σ'=>v = .int .i64 ids.length/\σ'=σ:=by
 obtain ⟨k1,rfl⟩:=hr
 have hkl:=kv_len .u64 ids
 generalize kv .u64 ids=KS at *
 refine a59 (by simp) ?_
 simp (disch:=first|assumption|omega|(simp only [List.length_append,List.length_cons,List.length_nil];omega)) only [go_sem,hn,hkl]
 exact retC_by (.refl _) (.refl _) ⟨rfl,rfl⟩
theorem sqlen_ok (h:PoolAt base σ p m k pg) (hs:base s=some (.obj [.ptr p 0,.int .i64 root,.ptr t 0])) {b:List UInt8} (hq:pg root=some b) {nd:SN} (hl:SPg b nd) {c:Nat} (hc:∀ r σ n,σ n=some r->SNodeR r nd->ACalls Tryz.prog 59 [.ptr n 0] σ fun v σ'=>v = .int .i64 c/\σ'=σ) :
  ACalls Tryz.prog 17 [.ptr s 0] σ fun v σ'=>v = .tuple [.int .i64 c,.int .i64 0]/\PoolAt base σ' p m k pg:=by
 have hss:=h.at hs
 refine a17 (by simp) ?_
 simp (disch:=first|assumption|omega|(simp only [List.length_append,List.length_cons,List.length_nil];omega)) only [go_sem,hss]
 refine (sqload_ok h hs hq hl).mono ?_
 rintro w σ1 ⟨n,q,rfl,hn,hr,hp⟩
 simp (disch:=first|assumption|omega|(simp only [List.length_append,List.length_cons,List.length_nil];omega)) only [go_sem]
 refine (hc q σ1 n (hp.at (ASt.set_same _ _ _)) hr).mono ?_
 rintro w σ2 ⟨rfl,rfl⟩
 simp (disch:=first|assumption|omega|(simp only [List.length_append,List.length_cons,List.length_nil];omega)) only [go_sem]
 exact retC_by (.refl _) (.refl _) ⟨rfl,hp.drop1 hn h.ck⟩
set_option maxHeartbeats 1000000 in
theorem sqdown_one (h:PoolAt base σ p m k pg) (hs:base s=some (.obj [.ptr p 0,.int .i64 root,.ptr t 0])) {b:List UInt8} (hq:pg root=some b) (hl:SLeaf b up ids) (i:Int) :
  ACalls Tryz.prog 56 [.ptr s 0,.int .i64 i] σ fun w σ'=>∃ n x base1,w = .tuple [.ptr n 0,.int .i64 root,.int .i64 i,.int .i64 0]/\LeafS base base1 n x up ids/\Only base base1 (nodeB n x (.sl .full []))/\PoolAt base1 σ' p m k pg:=by
 have hss:=h.at hs
 refine a56 (by simp) ?_
 simp (disch:=first|assumption|omega|(simp only [List.length_append,List.length_cons,List.length_nil];omega)) only [go_sem,hss]
 obtain ⟨J,hJ⟩:∃ J:Nat->AFr->ASt->Prop,J=fun j a1 s2=>j=0/\(a1 0 = .ptr s 0/\a1 1 = .int .i64 i/\a1 8 = .int .i64 root/\a1 16 = .int .i64 0)/\s2=σ:=⟨_,rfl⟩
 refine wp_loop_on J (fun i=>1-i) 0 ?_ ?_
 ·rw [hJ]
  refine ⟨rfl,?_,rfl⟩
  simp (disch:=first|assumption|omega|(simp only [List.length_append,List.length_cons,List.length_nil];omega)) only [go_sem]
 intro j a1 s2 hj
 rw [hJ] at hj
 obtain ⟨rfl,hf,rfl⟩:=hj
 simp (disch:=first|assumption|omega|(simp only [List.length_append,List.length_cons,List.length_nil];omega)) only [go_sem,hf]
 refine (sqload_leafM h hs hq hl).mono ?_
 rintro w s3 ⟨n,x,base1,rfl,hm,hO,hp⟩
 have hn:=hp.at hm.hn
 have hcx:=hm.hx.cell
 simp (disch:=first|assumption|omega|(simp only [List.length_append,List.length_cons,List.length_nil];omega)) only [go_sem,hf,hn,hcx]
 exact retC_by (.refl _) (.refl _) ⟨n,x,base1,rfl,hm,hO,hp⟩
end
end Go.A
namespace Go.A
open Go.Proofs
/-! 119: (*tabular/seq.Seq).tell -/
def c119_41:ACode := .seq (.ops [ oq 12 (.bin .lss (.t 11) (.v (.int .i64 20)))]) (.seq (.cond (.t 12) .skip (.exit 0)) (.seq (.block 1 (.seq (.seq (.ops [ oq 13 (.mv (.t 2)),oq 14 (.nc (.t 13)),oq 15 (.fa 1 (.t 14)),oq 16 (.ld none (.t 15)),oq 17 (.bin .eql (.t 16) (.v (.int .i64 0)))]) (.cond (.t 17) (.seq (.ops [ oq 6 (.mv (.v (.int .i64 0)))]) .ret) .skip)) (.seq (.ops [ oq 19 (.mv (.t 0)),oq 20 (.mv (.t 2)),oq 21 (.nc (.t 20)),oq 22 (.fa 1 (.t 21)),oq 23 (.ld none (.t 22)),oe 24 (.call 53 [(.t 19),(.t 23)]),oq 18 (.mv (.t 24)),oq 25 (.ext 0 (.t 18)),oq 26 (.ext 1 (.t 18)),oq 7 (.mv (.t 25)),oq 8 (.mv (.t 26))]) (.seq (.seq (.ops [ oq 27 (.mv (.t 8)),oq 28 (.bin .neq (.t 27) (.v (.int .i64 0)))]) (.cond (.t 28) (.seq (.ops [ oq 29 (.mv (.t 8)),oq 6 (.mv (.t 29))]) .ret) .skip)) (.seq (.ops [ oq 30 (.mv (.t 7)),oq 31 (.nc (.t 30)),oq 32 (.fa 3 (.t 31)),oq 33 (.ld none (.t 32)),oq 34 (.mv (.t 1)),oe 35 (.call 55 [(.t 33),(.t 34)]),oq 9 (.mv (.t 35))]) (.seq (.seq (.ops [ oq 36 (.mv (.t 9)),oq 37 (.bin .lss (.t 36) (.v (.int .i64 0)))]) (.cond (.t 37) (.seq (.ops [ oq 6 (.mv (.v (.int .i64 3)))]) .ret) .skip)) (.seq (.ops [ oq 38 (.mv (.t 7)),oq 39 (.nc (.t 38)),oq 40 (.fa 4 (.t 39)),oq 41 (.ld none (.t 40)),oq 42 (.mv (.t 9)),oq 43 (.mv (.t 2)),⟨some 44,none,.e (.call 59 [(.t 43)]),[⟨none,.ld none (.t 40),41⟩]⟩,oq 45 (.ia 1 (.t 41) (.t 42)),oz (.store 1 (.t 45) (.t 44))]) (.seq (.seq (.ops [ oq 46 (.mv (.t 0)),oq 47 (.mv (.t 2)),oq 48 (.nc (.t 47)),oq 49 (.fa 1 (.t 48)),oq 50 (.ld none (.t 49)),oq 51 (.mv (.t 7)),oe 52 (.call 116 [(.t 46),(.t 50),(.t 51)]),oq 10 (.mv (.t 52))]) (.seq (.ops [ oq 53 (.mv (.t 10)),oq 54 (.bin .neq (.t 53) (.v (.int .i64 0)))]) (.cond (.t 54) (.seq (.ops [ oq 55 (.mv (.t 10)),oq 6 (.mv (.t 55))]) .ret) .skip))) (.ops [ oq 56 (.mv (.t 2)),oq 57 (.nc (.t 56)),oq 58 (.fa 1 (.t 57)),oq 59 (.ld none (.t 58)),oq 60 (.mv (.t 7)),oq 1 (.mv (.t 59)),oq 2 (.mv (.t 60))]))))))))) (.ops [ oq 61 (.bin .add (.t 11) (.v (.int .i64 1))),oq 11 (.mv (.t 61))])))
def c119_48:ACode := .seq (.ops [ oq 6 (.mv (.v (.int .i64 0)))]) (.seq (.seq (.ops [ oq 11 (.mv (.v (.int .i64 0)))]) (.block 0 (.loop c119_41))) (.seq (.ops [ oq 6 (.mv (.v (.int .i64 3)))]) .ret))
@[go_sem] def c119_41_wp:=wp_of c119_41.eq_1
@[go_sem] def c119_48_wp:=wp_of c119_48.eq_1
def c119:AFn:=⟨62,[.t 6],c119_48⟩
theorem c119_ok:compF Tryz.prog Tryz.f119=some c119:=by kernel_rfl
theorem a119 {args:List AV} {σ:ASt} {R:AV->ASt->Prop} (hl:args.length<=62) (h:c119_48.wp Tryz.prog (RetQ [.t 6] R) (init args) σ):ACalls Tryz.prog 119 args σ R:=acalls_of Tryz.func119 c119_ok hl h
end Go.A
namespace Go.A
open Go.Proofs
/-! 15: (*tabular/seq.Seq).Find -/
def c15_54:ACode := .seq (.ops [ oq 91 (.bin .lss (.t 90) (.t 89))]) (.seq (.cond (.t 91) .skip (.exit 2)) (.seq (.block 3 (.seq (.ops [ oq 92 (.ia 1 (.t 88) (.t 90)),oq 93 (.ld none (.t 92)),oq 16 (.mv (.t 93))]) (.ops [ oq 94 (.mv (.t 11)),oq 95 (.mv (.t 16)),oq 96 (.bin .add (.t 94) (.t 95)),oq 11 (.mv (.t 96))]))) (.ops [ oq 97 (.bin .add (.t 90) (.v (.int .i64 1))),oq 90 (.mv (.t 97))])))
def c15_69:ACode := .seq (.ops [ oq 56 (.bin .lss (.t 55) (.v (.int .i64 20)))]) (.seq (.cond (.t 56) .skip (.exit 0)) (.seq (.block 1 (.seq (.seq (.ops [ oq 57 (.mv (.t 10)),oq 58 (.nc (.t 57)),oq 59 (.fa 1 (.t 58)),oq 60 (.ld none (.t 59)),oq 61 (.bin .eql (.t 60) (.v (.int .i64 0)))]) (.cond (.t 61) (.seq (.ops [ oq 62 (.mv (.t 11)),oq 4 (.mv (.t 62)),oq 5 (.mv (.v (.int .i64 0)))]) .ret) .skip)) (.seq (.ops [ oq 64 (.mv (.t 0)),oq 65 (.mv (.t 10)),oq 66 (.nc (.t 65)),oq 67 (.fa 1 (.t 66)),oq 68 (.ld none (.t 67)),oe 69 (.call 53 [(.t 64),(.t 68)]),oq 63 (.mv (.t 69)),oq 70 (.ext 0 (.t 63)),oq 71 (.ext 1 (.t 63)),oq 12 (.mv (.t 70)),oq 13 (.mv (.t 71))]) (.seq (.seq (.ops [ oq 72 (.mv (.t 13)),oq 73 (.bin .neq (.t 72) (.v (.int .i64 0)))]) (.cond (.t 73) (.seq (.ops [ oq 74 (.mv (.t 13)),oq 4 (.mv (.v (.int .i64 0))),oq 5 (.mv (.t 74))]) .ret) .skip)) (.seq (.ops [ oq 75 (.mv (.t 12)),oq 76 (.nc (.t 75)),oq 77 (.fa 3 (.t 76)),oq 78 (.ld none (.t 77)),oq 79 (.mv (.t 9)),oe 80 (.call 55 [(.t 78),(.t 79)]),oq 14 (.mv (.t 80))]) (.seq (.seq (.ops [ oq 81 (.mv (.t 14)),oq 82 (.bin .lss (.t 81) (.v (.int .i64 0)))]) (.cond (.t 82) (.seq (.ops [ oq 4 (.mv (.v (.int .i64 0))),oq 5 (.mv (.v (.int .i64 3)))]) .ret) .skip)) (.seq (.seq (.ops [ oq 83 (.mv (.t 12)),oq 84 (.nc (.t 83)),oq 85 (.fa 4 (.t 84)),oq 86 (.ld none (.t 85)),oq 87 (.mv (.t 14)),oq 88 (.slto (false,1) (.t 86) (.t 87)),oq 89 (.len (.t 88)),oq 90 (.mv (.v (.int .i64 0)))]) (.block 2 (.loop c15_54))) (.ops [ oq 98 (.mv (.t 10)),oq 99 (.nc (.t 98)),oq 100 (.fa 1 (.t 99)),oq 101 (.ld none (.t 100)),oq 102 (.mv (.t 12)),oq 9 (.mv (.t 101)),oq 10 (.mv (.t 102))])))))))) (.ops [ oq 103 (.bin .add (.t 55) (.v (.int .i64 1))),oq 55 (.mv (.t 103))])))
def c15_84:ACode := .seq (.ops [ oq 4 (.mv (.v (.int .i64 0))),oq 5 (.mv (.v (.int .i64 0)))]) (.seq (.ops [ oq 18 (.mv (.t 0)),oq 19 (.nc (.t 18)),oq 20 (.fa 2 (.t 19)),oq 21 (.ld none (.t 20)),oq 22 (.mv (.t 1)),oe 23 (.call 12 [(.t 21),(.t 22)]),oq 17 (.mv (.t 23)),oq 24 (.ext 0 (.t 17)),oq 25 (.ext 1 (.t 17)),oq 26 (.ext 2 (.t 17)),oq 6 (.mv (.t 24)),oq 7 (.mv (.t 25)),oq 8 (.mv (.t 26))]) (.seq (.seq (.ops [ oq 27 (.mv (.t 8)),oq 28 (.bin .eql (.t 27) (.v (.int .i64 0))),oq 29 (.mv (.t 28)),⟨some 30,some (29,true),.q (.mv (.t 7)),[]⟩,⟨some 31,some (29,true),.q (.un .not (.t 30)),[]⟩,oq 32 (.pick (.t 29) (.t 31) (.v (.bool false)))]) (.cond (.t 32) (.ops [ oq 8 (.mv (.v (.int .i64 4)))]) .skip)) (.seq (.seq (.ops [ oq 33 (.mv (.t 8)),oq 34 (.bin .neq (.t 33) (.v (.int .i64 0)))]) (.cond (.t 34) (.seq (.ops [ oq 35 (.mv (.t 8)),oq 4 (.mv (.v (.int .i64 0))),oq 5 (.mv (.t 35))]) .ret) .skip)) (.seq (.ops [ oq 36 (.mv (.t 6)),oq 37 (.conv .i64 (.t 36)),oq 9 (.mv (.t 37))]) (.seq (.ops [ oq 39 (.mv (.t 0)),oq 40 (.mv (.t 9)),oe 41 (.call 53 [(.t 39),(.t 40)]),oq 38 (.mv (.t 41)),oq 42 (.ext 0 (.t 38)),oq 43 (.ext 1 (.t 38)),oq 10 (.mv (.t 42)),oq 8 (.mv (.t 43))]) (.seq (.seq (.ops [ oq 44 (.mv (.t 8)),oq 45 (.bin .neq (.t 44) (.v (.int .i64 0)))]) (.cond (.t 45) (.seq (.ops [ oq 46 (.mv (.t 8)),oq 4 (.mv (.v (.int .i64 0))),oq 5 (.mv (.t 46))]) .ret) .skip)) (.seq (.ops [ oq 47 (.mv (.t 10)),oq 48 (.nc (.t 47)),oq 49 (.fa 2 (.t 48)),oq 50 (.ld none (.t 49)),oq 51 (.mv (.t 1)),oe 52 (.call 54 [(.t 50),(.t 51)]),oq 11 (.mv (.t 52))]) (.seq (.seq (.ops [ oq 53 (.mv (.t 11)),oq 54 (.bin .lss (.t 53) (.v (.int .i64 0)))]) (.cond (.t 54) (.seq (.ops [ oq 4 (.mv (.v (.int .i64 0))),oq 5 (.mv (.v (.int .i64 3)))]) .ret) .skip)) (.seq (.seq (.ops [ oq 55 (.mv (.v (.int .i64 0)))]) (.block 0 (.loop c15_69))) (.seq (.ops [ oq 4 (.mv (.v (.int .i64 0))),oq 5 (.mv (.v (.int .i64 3)))]) .ret))))))))))
@[go_sem] def c15_69_wp:=wp_of c15_69.eq_1
@[go_sem] def c15_84_wp:=wp_of c15_84.eq_1
def c15:AFn:=⟨104,[.t 4,.t 5],c15_84⟩
theorem c15_ok:compF Tryz.prog Tryz.f15=some c15:=by kernel_rfl
theorem a15 {args:List AV} {σ:ASt} {R:AV->ASt->Prop} (hl:args.length<=104) (h:c15_84.wp Tryz.prog (RetQ [.t 4,.t 5] R) (init args) σ):ACalls Tryz.prog 15 args σ R:=acalls_of Tryz.func15 c15_ok hl h
end Go.A
namespace Go.A
open Go.Proofs
/-! 133: (*tabular/seq.Seq).raise -/
/-! 134: (*tabular/seq.node).cut -/
end Go.A
namespace Go.A
open Go.Proofs
/-! 68: (*tabular/seq.Seq).grow -/
def c68_61:ACode := .seq (.seq (.ops [ oq 43 (.mv (.t 0)),oq 44 (.mv (.t 1)),oq 45 (.mv (.t 2)),oe 46 (.call 116 [(.t 43),(.t 44),(.t 45)]),oq 9 (.mv (.t 46))]) (.seq (.ops [ oq 47 (.mv (.t 9)),oq 48 (.bin .neq (.t 47) (.v (.int .i64 0)))]) (.cond (.t 48) (.seq (.ops [ oq 49 (.mv (.t 9)),oq 6 (.mv (.t 49))]) .ret) .skip))) (.seq (.ops [ oq 51 (.mv (.t 0)),oq 52 (.mv (.t 8)),oe 53 (.call 135 [(.t 51),(.t 52)]),oq 50 (.mv (.t 53)),oq 54 (.ext 0 (.t 50)),oq 55 (.ext 1 (.t 50)),oq 10 (.mv (.t 54)),oq 11 (.mv (.t 55))]) (.seq (.seq (.ops [ oq 56 (.mv (.t 11)),oq 57 (.bin .neq (.t 56) (.v (.int .i64 0)))]) (.cond (.t 57) (.seq (.ops [ oq 58 (.mv (.t 11)),oq 6 (.mv (.t 58))]) .ret) .skip)) (.seq (.ops [ oq 60 (.mv (.t 0)),oq 61 (.mv (.t 2)),oq 62 (.nc (.t 61)),oq 63 (.fa 1 (.t 62)),oq 64 (.ld none (.t 63)),oe 65 (.call 53 [(.t 60),(.t 64)]),oq 59 (.mv (.t 65)),oq 66 (.ext 0 (.t 59)),oq 67 (.ext 1 (.t 59)),oq 12 (.mv (.t 66)),oq 11 (.mv (.t 67))]) (.seq (.seq (.ops [ oq 68 (.mv (.t 11)),oq 69 (.bin .neq (.t 68) (.v (.int .i64 0)))]) (.cond (.t 69) (.seq (.ops [ oq 70 (.mv (.t 11)),oq 6 (.mv (.t 70))]) .ret) .skip)) (.seq (.ops [ oq 71 (.mv (.t 12)),oq 72 (.nc (.t 71)),oq 73 (.fa 3 (.t 72)),oq 74 (.ld none (.t 73)),oq 75 (.mv (.t 1)),oe 76 (.call 55 [(.t 74),(.t 75)]),oq 13 (.mv (.t 76))]) (.seq (.seq (.ops [ oq 77 (.mv (.t 13)),oq 78 (.bin .lss (.t 77) (.v (.int .i64 0)))]) (.cond (.t 78) (.seq (.ops [ oq 6 (.mv (.v (.int .i64 3)))]) .ret) .skip)) (.seq (.ops [ oq 79 (.mv (.t 12)),oq 80 (.nc (.t 79)),oq 81 (.fa 4 (.t 80)),oq 82 (.ld none (.t 81)),oq 83 (.mv (.t 13)),oq 84 (.mv (.t 2)),⟨some 85,none,.e (.call 59 [(.t 84)]),[⟨none,.ld none (.t 81),82⟩]⟩,oq 86 (.ia 1 (.t 82) (.t 83)),oz (.store 1 (.t 86) (.t 85))]) (.seq (.ops [ oq 87 (.mv (.t 12)),oq 88 (.mv (.t 12)),oq 89 (.nc (.t 88)),oq 90 (.fa 3 (.t 89)),oq 91 (.ld none (.t 90)),oq 92 (.mv (.t 13)),oq 93 (.bin .add (.t 92) (.v (.int .i64 1))),oq 94 (.mv (.t 10)),oq 95 (.bslv 1 [(.t 94)]),oe 96 (.call 128 [(.t 91),(.t 93),(.t 95)]),oq 97 (.nc (.t 87)),oq 98 (.fa 3 (.t 97)),oz (.store 1 (.t 98) (.t 96))]) (.seq (.ops [ oq 99 (.mv (.t 12)),oq 100 (.mv (.t 12)),oq 101 (.nc (.t 100)),oq 102 (.fa 4 (.t 101)),oq 103 (.ld none (.t 102)),oq 104 (.mv (.t 13)),oq 105 (.bin .add (.t 104) (.v (.int .i64 1))),oq 106 (.mv (.t 8)),⟨some 107,none,.e (.call 59 [(.t 106)]),[⟨none,.ld none (.t 102),103⟩]⟩,oq 108 (.bslv 1 [(.t 107)]),oe 109 (.call 128 [(.t 103),(.t 105),(.t 108)]),oq 110 (.nc (.t 99)),oq 111 (.fa 4 (.t 110)),oz (.store 1 (.t 111) (.t 109))]) (.ops [ oq 112 (.mv (.t 2)),oq 113 (.nc (.t 112)),oq 114 (.fa 1 (.t 113)),oq 115 (.ld none (.t 114)),oq 116 (.mv (.t 12)),oq 1 (.mv (.t 115)),oq 2 (.mv (.t 116))]))))))))))
def c68_69:ACode := .seq (.ops [ oq 15 (.bin .lss (.t 14) (.v (.int .i64 20)))]) (.seq (.cond (.t 15) .skip (.exit 0)) (.seq (.block 1 (.seq (.seq (.ops [ oq 16 (.mv (.t 2)),oe 17 (.call 91 [(.t 16)]),oq 18 (.mv (.t 2)),oe 19 (.call 118 [(.t 18)]),oq 20 (.bin .leq (.t 17) (.t 19))]) (.cond (.t 20) (.seq (.seq (.ops [ oq 21 (.mv (.t 0)),oq 22 (.mv (.t 1)),oq 23 (.mv (.t 2)),oe 24 (.call 116 [(.t 21),(.t 22),(.t 23)]),oq 7 (.mv (.t 24))]) (.seq (.ops [ oq 25 (.mv (.t 7)),oq 26 (.bin .neq (.t 25) (.v (.int .i64 0)))]) (.cond (.t 26) (.seq (.ops [ oq 27 (.mv (.t 7)),oq 6 (.mv (.t 27))]) .ret) .skip))) (.seq (.ops [ oq 28 (.mv (.t 0)),oq 29 (.mv (.t 1)),oq 30 (.mv (.t 2)),oe 31 (.call 119 [(.t 28),(.t 29),(.t 30)]),oq 6 (.mv (.t 31))]) .ret)) .skip)) (.seq (.seq (.ops [ oq 32 (.mv (.t 1)),oq 33 (.mv (.t 0)),oq 34 (.nc (.t 33)),oq 35 (.fa 1 (.t 34)),oq 36 (.ld none (.t 35)),oq 37 (.bin .eql (.t 32) (.t 36))]) (.cond (.t 37) (.seq (.ops [ oq 38 (.mv (.t 0)),oq 39 (.mv (.t 2)),oe 40 (.call 133 [(.t 38),(.t 39)]),oq 6 (.mv (.t 40))]) .ret) .skip)) (.seq (.ops [ oq 41 (.mv (.t 2)),oe 42 (.call 134 [(.t 41)]),oq 8 (.mv (.t 42))]) c68_61)))) (.ops [ oq 117 (.bin .add (.t 14) (.v (.int .i64 1))),oq 14 (.mv (.t 117))])))
def c68_76:ACode := .seq (.ops [ oq 6 (.mv (.v (.int .i64 0)))]) (.seq (.seq (.ops [ oq 14 (.mv (.v (.int .i64 0)))]) (.block 0 (.loop c68_69))) (.seq (.ops [ oq 6 (.mv (.v (.int .i64 3)))]) .ret))
@[go_sem] def c68_69_wp:=wp_of c68_69.eq_1
@[go_sem] def c68_76_wp:=wp_of c68_76.eq_1
def c68:AFn:=⟨118,[.t 6],c68_76⟩
theorem c68_ok:compF Tryz.prog Tryz.f68=some c68:=by kernel_rfl
theorem a68 {args:List AV} {σ:ASt} {R:AV->ASt->Prop} (hl:args.length<=118) (h:c68_76.wp Tryz.prog (RetQ [.t 6] R) (init args) σ):ACalls Tryz.prog 68 args σ R:=acalls_of Tryz.func68 c68_ok hl h
end Go.A
namespace Go.A
open Go.Proofs
section
variable {base base' σ σ':ASt} {p k page t root troot n s up:Nat} {m:PX} {pg:Pgs} {ids ds cs:List Nat} {r:Role} {T:Nat->Prop} {M:Nat->Option Nat}
theorem sqtell_none (hn:σ n=some r) (hr:SNodeR r (.leaf 0 ids)):ACalls Tryz.prog 119 [.ptr s 0,.int .i64 page,.ptr n 0] σ fun w σ'=>w = .int .i64 0/\σ'=σ:=by
 obtain ⟨k1,rfl⟩:=hr
 refine a119 (by simp) ?_
 simp (disch:=first|assumption|omega|(simp only [List.length_append,List.length_cons,List.length_nil];omega)) only [go_sem]
 refine wp_loop_on (fun (j:Nat) a1 s2=>(a1 0 = .ptr s 0/\a1 11 = .int .i64 0/\a1 2 = .ptr n 0)/\s2=σ) (fun i=>1-i) 0 ⟨?_,rfl⟩ ?_
 ·simp (disch:=first|assumption|omega|(simp only [List.length_append,List.length_cons,List.length_nil];omega)) only [go_sem]
 rintro j a1 s2 ⟨hf,rfl⟩
 simp (disch:=first|assumption|omega|(simp only [List.length_append,List.length_cons,List.length_nil];omega)) only [go_sem,hf,hn]
 exact retC_by (.refl _) (.refl _) ⟨rfl,rfl⟩
set_option maxHeartbeats 1000000 in
theorem sqgrow_stay (hp:PoolAt (base.set n (some r)) σ p m k pg) (hck:CkT base) (hnew:base n=none) (hs:base s=some (.obj [.ptr p 0,.int .i64 root,.ptr t 0])) (hr:SNodeR r (.leaf up ids)) (h48:ids.length<=48) (huu:up<60000) (hiu:u64L ids) {b0:List UInt8} (hq:pg page=some b0) {Q:Pgs->Prop}
  (htell:∀ σ' b',SLeaf b' up ids->PoolAt (base.set n (some r)) σ' p m k (pset pg page (some b'))->ACalls Tryz.prog 119 [.ptr s 0,.int .i64 page,.ptr n 0] σ' fun w σ2=>w = .int .i64 0/\∃ pg',Q pg'/\PoolAt (base.set n (some r)) σ2 p m k pg') :
  ACalls Tryz.prog 68 [.ptr s 0,.int .i64 page,.ptr n 0] σ fun w σ'=>w = .int .i64 0/\∃ pg',Q pg'/\PoolAt base σ' p m k pg':=by
 have hsn:s≠n:=fun e=>by rw [e,hnew] at hs;cases hs
 have hs2:=(ASt.set_ne (σ:=base) (r:=some r) hsn).trans hs
 have hn:=hp.at (ASt.set_same base n (some r))
 have hsz:=sqsize_ok hn hr (by show ids.length<=1000;omega)
 have hszz:(SN.leaf up ids).size=ids.length:=rfl
 rw [hszz] at hsz
 have hmo:ACalls Tryz.prog 118 [.ptr n 0] σ fun v σ'=>v = .int .i64 48/\σ'=σ:=by
  obtain ⟨k1,rfl⟩:=hr
  exact sqmost_ok hn
 have hle:(ids.length:Int)<=48:=by omega
 refine a68 (by simp) ?_
 simp (disch:=first|assumption|omega|(simp only [List.length_append,List.length_cons,List.length_nil];omega)) only [go_sem]
 refine wp_loop_on (fun (j:Nat) a1 s2=>(a1 0 = .ptr s 0/\a1 1 = .int .i64 page/\a1 14 = .int .i64 0/\a1 2 = .ptr n 0)/\s2=σ) (fun i=>1-i) 0 ⟨?_,rfl⟩ ?_
 ·simp (disch:=first|assumption|omega|(simp only [List.length_append,List.length_cons,List.length_nil];omega)) only [go_sem]
 rintro j a1 s2 ⟨hf,rfl⟩
 simp (disch:=first|assumption|omega|(simp only [List.length_append,List.length_cons,List.length_nil];omega)) only [go_sem,hf]
 refine hsz.mono ?_
 rintro w s3 ⟨rfl,rfl⟩
 simp (disch:=first|assumption|omega|(simp only [List.length_append,List.length_cons,List.length_nil];omega)) only [go_sem,hf]
 refine hmo.mono ?_
 rintro w s4 ⟨rfl,rfl⟩
 simp (disch:=first|assumption|omega|(simp only [List.length_append,List.length_cons,List.length_nil];omega)) only [go_sem,hf,hle]
 refine (sqstore_ok (nd := .leaf up ids) hp hs2 hq ⟨r,ASt.set_same _ _ _,hr⟩ ⟨h48,by omega,hiu⟩).mono ?_
 rintro w s5 ⟨rfl,b',hb',hp5⟩
 simp (disch:=first|assumption|omega|(simp only [List.length_append,List.length_cons,List.length_nil];omega)) only [go_sem,hf]
 refine (htell _ _ hb' hp5).mono ?_
 rintro w s6 ⟨rfl,pg',hQ,hp6⟩
 simp (disch:=first|assumption|omega|(simp only [List.length_append,List.length_cons,List.length_nil];omega)) only [go_sem,hf]
 exact retC_by (.refl _) (.refl _) ⟨rfl,pg',hQ,hp6.drop1 hnew hck⟩
end
end Go.A
namespace Go.A
open Go.Proofs
/-! 20: (*tabular/seq.Seq).Insert -/
def c20_47:ACode := .seq (.ops [ oq 6 (.mv (.v (.int .i64 0)))]) (.seq (.seq (.ops [ oq 14 (.mv (.t 1)),oq 15 (.bin .lss (.t 14) (.v (.int .i64 0)))]) (.cond (.t 15) (.seq (.ops [ oq 6 (.mv (.v (.int .i64 1)))]) .ret) .skip)) (.seq (.ops [ oq 17 (.mv (.t 0)),oq 18 (.nc (.t 17)),oq 19 (.fa 2 (.t 18)),oq 20 (.ld none (.t 19)),oq 21 (.mv (.t 2)),oe 22 (.call 12 [(.t 20),(.t 21)]),oq 16 (.mv (.t 22)),oq 23 (.ext 0 (.t 16)),oq 24 (.ext 1 (.t 16)),oq 25 (.ext 2 (.t 16)),oq 7 (.mv (.t 23)),oq 8 (.mv (.t 24)),oq 9 (.mv (.t 25))]) (.seq (.seq (.ops [ oq 26 (.mv (.t 9)),oq 27 (.bin .neq (.t 26) (.v (.int .i64 0)))]) (.cond (.t 27) (.seq (.ops [ oq 28 (.mv (.t 9)),oq 6 (.mv (.t 28))]) .ret) .skip)) (.seq (.ops [ oq 30 (.mv (.t 0)),oq 31 (.mv (.t 1)),oe 32 (.call 56 [(.t 30),(.t 31)]),oq 29 (.mv (.t 32)),oq 33 (.ext 0 (.t 29)),oq 34 (.ext 1 (.t 29)),oq 35 (.ext 2 (.t 29)),oq 36 (.ext 3 (.t 29)),oq 10 (.mv (.t 33)),oq 11 (.mv (.t 34)),oq 12 (.mv (.t 35)),oq 9 (.mv (.t 36))]) (.seq (.seq (.ops [ oq 37 (.mv (.t 9)),oq 38 (.bin .neq (.t 37) (.v (.int .i64 0)))]) (.cond (.t 38) (.seq (.ops [ oq 39 (.mv (.t 9)),oq 6 (.mv (.t 39))]) .ret) .skip)) (.seq (.block 0 (.seq (.ops [ oq 41 (.mv (.t 12)),oq 42 (.mv (.t 10)),oq 43 (.nc (.t 42)),oq 44 (.fa 2 (.t 43)),oq 45 (.ld none (.t 44)),oq 46 (.len (.t 45)),oq 47 (.bin .gtr (.t 41) (.t 46)),oq 40 (.mv (.t 47))]) (.cond (.t 40) (.seq (.ops [ oq 6 (.mv (.v (.int .i64 1)))]) .ret) (.seq (.ops [ oq 49 (.mv (.t 8)),oq 48 (.mv (.t 49))]) (.cond (.t 48) (.seq (.ops [ oq 6 (.mv (.v (.int .i64 5)))]) .ret) .skip))))) (.seq (.ops [ oq 50 (.mv (.t 10)),oq 51 (.mv (.t 10)),oq 52 (.nc (.t 51)),oq 53 (.fa 2 (.t 52)),oq 54 (.ld none (.t 53)),oq 55 (.mv (.t 12)),oq 56 (.mv (.t 2)),oq 57 (.bslv 1 [(.t 56)]),oe 58 (.call 67 [(.t 54),(.t 55),(.t 57)]),oq 59 (.nc (.t 50)),oq 60 (.fa 2 (.t 59)),oz (.store 1 (.t 60) (.t 58))]) (.seq (.seq (.ops [ oq 61 (.mv (.t 0)),oq 62 (.nc (.t 61)),oq 63 (.fa 2 (.t 62)),oq 64 (.ld none (.t 63)),oq 65 (.mv (.t 2)),oq 66 (.mv (.t 11)),oq 67 (.conv .u64 (.t 66)),oe 68 (.call 19 [(.t 64),(.t 65),(.t 67)]),oq 13 (.mv (.t 68))]) (.seq (.ops [ oq 69 (.mv (.t 13)),oq 70 (.bin .neq (.t 69) (.v (.int .i64 0)))]) (.cond (.t 70) (.seq (.ops [ oq 71 (.mv (.t 13)),oq 6 (.mv (.t 71))]) .ret) .skip))) (.seq (.ops [ oq 72 (.mv (.t 0)),oq 73 (.mv (.t 11)),oq 74 (.mv (.t 10)),oe 75 (.call 68 [(.t 72),(.t 73),(.t 74)]),oq 6 (.mv (.t 75))]) .ret)))))))))
@[go_sem] def c20_47_wp:=wp_of c20_47.eq_1
def c20:AFn:=⟨76,[.t 6],c20_47⟩
theorem c20_ok:compF Tryz.prog Tryz.f20=some c20:=by kernel_rfl
theorem a20 {args:List AV} {σ:ASt} {R:AV->ASt->Prop} (hl:args.length<=76) (h:c20_47.wp Tryz.prog (RetQ [.t 6] R) (init args) σ):ACalls Tryz.prog 20 args σ R:=acalls_of Tryz.func20 c20_ok hl h
end Go.A
namespace Go.A
open Go.Proofs
/-! 120: (*tabular/seq.Seq).even -/
end Go.A
namespace Go.A
open Go.Proofs
/-! 58: (*tabular/seq.Seq).shrink -/
def c58_49:ACode := .seq (.seq (.ops [ oq 21 (.mv (.t 1)),oq 22 (.mv (.t 0)),oq 23 (.nc (.t 22)),oq 24 (.fa 1 (.t 23)),oq 25 (.ld none (.t 24)),oq 26 (.bin .eql (.t 21) (.t 25))]) (.cond (.t 26) (.seq (.ops [ oq 27 (.mv (.t 0)),oq 28 (.mv (.t 2)),oe 29 (.call 117 [(.t 27),(.t 28)]),oq 6 (.mv (.t 29))]) .ret) .skip)) (.seq (.seq (.ops [ oq 30 (.mv (.t 2)),oe 31 (.call 91 [(.t 30)]),oq 32 (.mv (.t 2)),oe 33 (.call 118 [(.t 32)]),oq 34 (.bin .quo (.t 33) (.v (.int .i64 2))),oq 35 (.bin .geq (.t 31) (.t 34))]) (.cond (.t 35) (.seq (.ops [ oq 36 (.mv (.t 0)),oq 37 (.mv (.t 1)),oq 38 (.mv (.t 2)),oe 39 (.call 119 [(.t 36),(.t 37),(.t 38)]),oq 6 (.mv (.t 39))]) .ret) .skip)) (.seq (.ops [ oq 41 (.mv (.t 0)),oq 42 (.mv (.t 2)),oq 43 (.nc (.t 42)),oq 44 (.fa 1 (.t 43)),oq 45 (.ld none (.t 44)),oe 46 (.call 53 [(.t 41),(.t 45)]),oq 40 (.mv (.t 46)),oq 47 (.ext 0 (.t 40)),oq 48 (.ext 1 (.t 40)),oq 8 (.mv (.t 47)),oq 9 (.mv (.t 48))]) (.seq (.seq (.ops [ oq 49 (.mv (.t 9)),oq 50 (.bin .neq (.t 49) (.v (.int .i64 0)))]) (.cond (.t 50) (.seq (.ops [ oq 51 (.mv (.t 9)),oq 6 (.mv (.t 51))]) .ret) .skip)) (.seq (.ops [ oq 52 (.mv (.t 8)),oq 53 (.nc (.t 52)),oq 54 (.fa 3 (.t 53)),oq 55 (.ld none (.t 54)),oq 56 (.mv (.t 1)),oe 57 (.call 55 [(.t 55),(.t 56)]),oq 10 (.mv (.t 57))]) (.seq (.seq (.ops [ oq 58 (.mv (.t 10)),oq 59 (.bin .lss (.t 58) (.v (.int .i64 0))),oq 60 (.mv (.t 59)),⟨some 61,some (60,false),.q (.mv (.t 8)),[]⟩,⟨some 62,some (60,false),.q (.nc (.t 61)),[]⟩,⟨some 63,some (60,false),.q (.fa 3 (.t 62)),[]⟩,⟨some 64,some (60,false),.q (.ld none (.t 63)),[]⟩,⟨some 65,some (60,false),.q (.len (.t 64)),[]⟩,⟨some 66,some (60,false),.q (.bin .lss (.t 65) (.v (.int .i64 2))),[]⟩,oq 67 (.pick (.t 60) (.v (.bool true)) (.t 66))]) (.cond (.t 67) (.seq (.ops [ oq 6 (.mv (.v (.int .i64 3)))]) .ret) .skip)) (.seq (.ops [ oq 68 (.mv (.t 8)),oq 69 (.nc (.t 68)),oq 70 (.fa 4 (.t 69)),oq 71 (.ld none (.t 70)),oq 72 (.mv (.t 10)),oq 73 (.mv (.t 2)),⟨some 74,none,.e (.call 59 [(.t 73)]),[⟨none,.ld none (.t 70),71⟩]⟩,oq 75 (.ia 1 (.t 71) (.t 72)),oz (.store 1 (.t 75) (.t 74))]) (.seq (.seq (.ops [ oq 76 (.mv (.t 0)),oq 77 (.mv (.t 2)),oq 78 (.nc (.t 77)),oq 79 (.fa 1 (.t 78)),oq 80 (.ld none (.t 79)),oq 81 (.mv (.t 8)),oq 82 (.mv (.t 10)),oq 83 (.mv (.t 8)),oq 84 (.nc (.t 83)),oq 85 (.fa 3 (.t 84)),oq 86 (.ld none (.t 85)),oq 87 (.len (.t 86)),oq 88 (.bin .sub (.t 87) (.v (.int .i64 2))),oq 89 (.mnx false (.t 82) (.t 88)),oe 90 (.call 120 [(.t 76),(.t 80),(.t 81),(.t 89)]),oq 11 (.mv (.t 90))]) (.seq (.ops [ oq 91 (.mv (.t 11)),oq 92 (.bin .neq (.t 91) (.v (.int .i64 0)))]) (.cond (.t 92) (.seq (.ops [ oq 93 (.mv (.t 11)),oq 6 (.mv (.t 93))]) .ret) .skip))) (.ops [ oq 94 (.mv (.t 2)),oq 95 (.nc (.t 94)),oq 96 (.fa 1 (.t 95)),oq 97 (.ld none (.t 96)),oq 98 (.mv (.t 8)),oq 1 (.mv (.t 97)),oq 2 (.mv (.t 98))]))))))))
def c58_55:ACode := .seq (.ops [ oq 13 (.bin .lss (.t 12) (.v (.int .i64 20)))]) (.seq (.cond (.t 13) .skip (.exit 0)) (.seq (.block 1 (.seq (.seq (.ops [ oq 14 (.mv (.t 0)),oq 15 (.mv (.t 1)),oq 16 (.mv (.t 2)),oe 17 (.call 116 [(.t 14),(.t 15),(.t 16)]),oq 7 (.mv (.t 17))]) (.seq (.ops [ oq 18 (.mv (.t 7)),oq 19 (.bin .neq (.t 18) (.v (.int .i64 0)))]) (.cond (.t 19) (.seq (.ops [ oq 20 (.mv (.t 7)),oq 6 (.mv (.t 20))]) .ret) .skip))) c58_49)) (.ops [ oq 99 (.bin .add (.t 12) (.v (.int .i64 1))),oq 12 (.mv (.t 99))])))
def c58_62:ACode := .seq (.ops [ oq 6 (.mv (.v (.int .i64 0)))]) (.seq (.seq (.ops [ oq 12 (.mv (.v (.int .i64 0)))]) (.block 0 (.loop c58_55))) (.seq (.ops [ oq 6 (.mv (.v (.int .i64 3)))]) .ret))
@[go_sem] def c58_49_wp:=wp_of c58_49.eq_1
@[go_sem] def c58_55_wp:=wp_of c58_55.eq_1
@[go_sem] def c58_62_wp:=wp_of c58_62.eq_1
def c58:AFn:=⟨100,[.t 6],c58_62⟩
theorem c58_ok:compF Tryz.prog Tryz.f58=some c58:=by kernel_rfl
theorem a58 {args:List AV} {σ:ASt} {R:AV->ASt->Prop} (hl:args.length<=100) (h:c58_62.wp Tryz.prog (RetQ [.t 6] R) (init args) σ):ACalls Tryz.prog 58 args σ R:=acalls_of Tryz.func58 c58_ok hl h
/-! 117: (*tabular/seq.Seq).lower -/
def c117_37:ACode := .seq (.ops [ oq 4 (.mv (.v (.int .i64 0)))]) (.seq (.seq (.ops [ oq 10 (.mv (.t 1)),oq 11 (.nc (.t 10)),oq 12 (.fa 0 (.t 11)),oq 13 (.ld none (.t 12)),oq 14 (.mv (.t 13)),⟨some 15,some (14,false),.q (.mv (.t 1)),[]⟩,⟨some 16,some (14,false),.q (.nc (.t 15)),[]⟩,⟨some 17,some (14,false),.q (.fa 3 (.t 16)),[]⟩,⟨some 18,some (14,false),.q (.ld none (.t 17)),[]⟩,⟨some 19,some (14,false),.q (.len (.t 18)),[]⟩,⟨some 20,some (14,false),.q (.bin .gtr (.t 19) (.v (.int .i64 1))),[]⟩,oq 21 (.pick (.t 14) (.v (.bool true)) (.t 20))]) (.cond (.t 21) (.seq (.ops [ oq 4 (.mv (.v (.int .i64 0)))]) .ret) .skip)) (.seq (.ops [ oq 22 (.mv (.t 1)),oq 23 (.nc (.t 22)),oq 24 (.fa 3 (.t 23)),oq 25 (.ld none (.t 24)),oq 26 (.ia 1 (.t 25) (.v (.int .i64 0))),oq 27 (.ld none (.t 26)),oq 5 (.mv (.t 27))]) (.seq (.ops [ oq 29 (.mv (.t 0)),oq 30 (.mv (.t 5)),oe 31 (.call 53 [(.t 29),(.t 30)]),oq 28 (.mv (.t 31)),oq 32 (.ext 0 (.t 28)),oq 33 (.ext 1 (.t 28)),oq 6 (.mv (.t 32)),oq 7 (.mv (.t 33))]) (.seq (.seq (.ops [ oq 34 (.mv (.t 7)),oq 35 (.bin .neq (.t 34) (.v (.int .i64 0)))]) (.cond (.t 35) (.seq (.ops [ oq 36 (.mv (.t 7)),oq 4 (.mv (.t 36))]) .ret) .skip)) (.seq (.ops [ oq 37 (.mv (.t 6)),oq 38 (.nc (.t 37)),oq 39 (.fa 1 (.t 38)),oz (.store 1 (.t 39) (.v (.int .i64 0)))]) (.seq (.seq (.ops [ oq 40 (.mv (.t 0)),oq 41 (.mv (.t 0)),oq 42 (.nc (.t 41)),oq 43 (.fa 1 (.t 42)),oq 44 (.ld none (.t 43)),oq 45 (.mv (.t 6)),oe 46 (.call 116 [(.t 40),(.t 44),(.t 45)]),oq 8 (.mv (.t 46))]) (.seq (.ops [ oq 47 (.mv (.t 8)),oq 48 (.bin .neq (.t 47) (.v (.int .i64 0)))]) (.cond (.t 48) (.seq (.ops [ oq 49 (.mv (.t 8)),oq 4 (.mv (.t 49))]) .ret) .skip))) (.seq (.seq (.ops [ oq 50 (.mv (.t 0)),oq 51 (.mv (.t 0)),oq 52 (.nc (.t 51)),oq 53 (.fa 1 (.t 52)),oq 54 (.ld none (.t 53)),oq 55 (.mv (.t 6)),oq 56 (.mv (.t 6)),⟨some 57,none,.e (.call 91 [(.t 56)]),[⟨none,.ld none (.t 53),54⟩]⟩,oe 58 (.call 152 [(.t 50),(.t 54),(.t 55),(.v (.int .i64 0)),(.t 57)]),oq 9 (.mv (.t 58))]) (.seq (.ops [ oq 59 (.mv (.t 9)),oq 60 (.bin .neq (.t 59) (.v (.int .i64 0)))]) (.cond (.t 60) (.seq (.ops [ oq 61 (.mv (.t 9)),oq 4 (.mv (.t 61))]) .ret) .skip))) (.seq (.ops [ oq 62 (.mv (.t 0)),oq 63 (.nc (.t 62)),oq 64 (.fa 0 (.t 63)),oq 65 (.ld none (.t 64)),oq 66 (.mv (.t 5)),oe 67 (.call 44 [(.t 65),(.t 66)]),oq 4 (.mv (.t 67))]) .ret))))))))
@[go_sem] def c117_37_wp:=wp_of c117_37.eq_1
def c117:AFn:=⟨68,[.t 4],c117_37⟩
theorem c117_ok:compF Tryz.prog Tryz.f117=some c117:=by kernel_rfl
theorem a117 {args:List AV} {σ:ASt} {R:AV->ASt->Prop} (hl:args.length<=68) (h:c117_37.wp Tryz.prog (RetQ [.t 4] R) (init args) σ):ACalls Tryz.prog 117 args σ R:=acalls_of Tryz.func117 c117_ok hl h
end Go.A
namespace Go.A
open Go.Proofs
/-! 16: (*tabular/seq.Seq).Drop -/
def c16_35:ACode := .seq (.ops [ oq 4 (.mv (.v (.int .u64 0))),oq 5 (.mv (.v (.int .i64 0)))]) (.seq (.seq (.ops [ oq 13 (.mv (.t 1)),oq 14 (.bin .lss (.t 13) (.v (.int .i64 0)))]) (.cond (.t 14) (.seq (.ops [ oq 4 (.mv (.v (.int .u64 0))),oq 5 (.mv (.v (.int .i64 1)))]) .ret) .skip)) (.seq (.ops [ oq 16 (.mv (.t 0)),oq 17 (.mv (.t 1)),oe 18 (.call 56 [(.t 16),(.t 17)]),oq 15 (.mv (.t 18)),oq 19 (.ext 0 (.t 15)),oq 20 (.ext 1 (.t 15)),oq 21 (.ext 2 (.t 15)),oq 22 (.ext 3 (.t 15)),oq 6 (.mv (.t 19)),oq 7 (.mv (.t 20)),oq 8 (.mv (.t 21)),oq 9 (.mv (.t 22))]) (.seq (.seq (.ops [ oq 23 (.mv (.t 9)),oq 24 (.bin .neq (.t 23) (.v (.int .i64 0)))]) (.cond (.t 24) (.seq (.ops [ oq 25 (.mv (.t 9)),oq 4 (.mv (.v (.int .u64 0))),oq 5 (.mv (.t 25))]) .ret) .skip)) (.seq (.seq (.ops [ oq 26 (.mv (.t 8)),oq 27 (.mv (.t 6)),oq 28 (.nc (.t 27)),oq 29 (.fa 2 (.t 28)),oq 30 (.ld none (.t 29)),oq 31 (.len (.t 30)),oq 32 (.bin .geq (.t 26) (.t 31))]) (.cond (.t 32) (.seq (.ops [ oq 4 (.mv (.v (.int .u64 0))),oq 5 (.mv (.v (.int .i64 1)))]) .ret) .skip)) (.seq (.ops [ oq 33 (.mv (.t 6)),oq 34 (.nc (.t 33)),oq 35 (.fa 2 (.t 34)),oq 36 (.ld none (.t 35)),oq 37 (.mv (.t 8)),oq 38 (.ia 1 (.t 36) (.t 37)),oq 39 (.ld none (.t 38)),oq 10 (.mv (.t 39))]) (.seq (.ops [ oq 40 (.mv (.t 6)),oq 41 (.mv (.t 6)),oq 42 (.nc (.t 41)),oq 43 (.fa 2 (.t 42)),oq 44 (.ld none (.t 43)),oq 45 (.mv (.t 8)),oq 46 (.mv (.t 8)),oq 47 (.bin .add (.t 46) (.v (.int .i64 1))),oe 48 (.call 57 [(.t 44),(.t 45),(.t 47)]),oq 49 (.nc (.t 40)),oq 50 (.fa 2 (.t 49)),oz (.store 1 (.t 50) (.t 48))]) (.seq (.seq (.ops [ oq 52 (.mv (.t 0)),oq 53 (.nc (.t 52)),oq 54 (.fa 2 (.t 53)),oq 55 (.ld none (.t 54)),oq 56 (.mv (.t 10)),oe 57 (.call 14 [(.t 55),(.t 56)]),oq 51 (.mv (.t 57)),oq 58 (.ext 0 (.t 51)),oq 59 (.ext 1 (.t 51)),oq 11 (.mv (.t 58)),oq 12 (.mv (.t 59))]) (.seq (.ops [ oq 60 (.mv (.t 12)),oq 61 (.bin .neq (.t 60) (.v (.int .i64 0)))]) (.cond (.t 61) (.seq (.ops [ oq 62 (.mv (.t 12)),oq 4 (.mv (.v (.int .u64 0))),oq 5 (.mv (.t 62))]) .ret) .skip))) (.seq (.ops [ oq 63 (.mv (.t 10)),oq 64 (.mv (.t 0)),oq 65 (.mv (.t 7)),oq 66 (.mv (.t 6)),oe 67 (.call 58 [(.t 64),(.t 65),(.t 66)]),oq 4 (.mv (.t 63)),oq 5 (.mv (.t 67))]) .ret))))))))
@[go_sem] def c16_35_wp:=wp_of c16_35.eq_1
def c16:AFn:=⟨68,[.t 4,.t 5],c16_35⟩
theorem c16_ok:compF Tryz.prog Tryz.f16=some c16:=by kernel_rfl
theorem a16 {args:List AV} {σ:ASt} {R:AV->ASt->Prop} (hl:args.length<=68) (h:c16_35.wp Tryz.prog (RetQ [.t 4,.t 5] R) (init args) σ):ACalls Tryz.prog 16 args σ R:=acalls_of Tryz.func16 c16_ok hl h
end Go.A
namespace Go.A
open Go.Proofs
structure SqOne (pg:Pgs) (root troot:Nat) (T:Nat->Prop) (M:Nat->Option Nat) (A:List Nat):Prop where
 lf:∃ b,pg root=some b/\SLeaf b 0 A
 tr:TrAt pg troot T M
 tn:¬ T root
 mm:∀ x,M x=if x∈A then some root else none
 nd:A.Nodup
 lt:∀ x∈A,x<60
structure SqTwo (pg:Pgs) (root troot:Nat) (T:Nat->Prop) (M:Nat->Option Nat) (a b:Nat) (A B:List Nat):Prop where
 rt:∃ br,pg root=some br/\SInner br 0 [a,b] [A.length,B.length]
 la:∃ b1,pg a=some b1/\SLeaf b1 root A
 lb:∃ b2,pg b=some b2/\SLeaf b2 root B
 tr:TrAt pg troot T M
 tn:¬ T root/\¬ T a/\¬ T b
 ne:a≠b/\a≠root/\b≠root
 mm:∀ x,M x=if x∈A then some a else if x∈B then some b else none
 nd:(A++B).Nodup
 lt:∀ x∈A++B,x<60
 mi:24<=A.length/\24<=B.length
end Go.A
namespace Go.A
open Go.Proofs
theorem del_mem {l:List Nat} {i x y:Nat} (hn:l.Nodup) (hx:l[i]? = some x):y∈delL l i↔y∈l/\y≠x:=by
 have hi:=(List.getElem?_eq_some_iff.1 hx).1
 constructor
 ·intro h
  refine ⟨delL_mem h,fun e=>?_⟩
  subst e
  obtain ⟨j,hj⟩:=List.mem_iff_getElem?.1 h
  rw [delL_G,delG_get hi] at hj
  split at hj
  ·have:=nodup_inj hn hj hx;omega
  ·have:=nodup_inj hn hj hx;omega
 ·rintro ⟨h,hne⟩
  rw [split_at hx,List.mem_append,List.mem_cons] at h
  unfold delL
  rcases h with h|h|h
  ·exact List.mem_append_left _ h
  ·exact absurd h hne
  ·exact List.mem_append_right _ h
end Go.A
namespace Go.A
open Go.Proofs
/-! 8: tabular/tree.New -/
def c8_16:ACode := .seq (.ops [ oq 2 (.mv (.v .nilp)),oq 3 (.mv (.v (.int .i64 0)))]) (.seq (.ops [ oq 8 (.mv (.t 0)),oe 9 (.call 30 [(.t 8)]),oq 7 (.mv (.t 9)),oq 10 (.ext 0 (.t 7)),oq 11 (.ext 1 (.t 7)),oq 4 (.mv (.t 10)),oq 5 (.mv (.t 11))]) (.seq (.seq (.ops [ oq 12 (.mv (.t 5)),oq 13 (.bin .neq (.t 12) (.v (.int .i64 0)))]) (.cond (.t 13) (.seq (.ops [ oq 14 (.mv (.t 5)),oq 2 (.mv (.v .nilp)),oq 3 (.mv (.t 14))]) .ret) .skip)) (.dfr 31 (.t 4) 15 (.seq (.ops [ oq 16 (.mv (.t 0)),oq 17 (.mv (.t 4)),oe 18 (.call 32 [(.t 17)]),oq 19 (.build [.nilp,(.int .i64 0)] [(0,1,(.t 16)),(1,1,(.t 18))]),oe 20 (.box (.t 19)),oq 6 (.mv (.t 20))]) (.seq (.ops [ oq 21 (.mv (.t 4)),oe 22 (.call 34 [(.t 21)]),oq 23 (.build [(.bool false),(.sl .full []),(.sl .full []),(.sl .full [])] [(0,1,(.v (.bool true)))]),oe 24 (.box (.t 23)),oe 25 (.call 33 [(.t 22),(.t 24)])]) (.seq (.ops [ oq 26 (.mv (.t 6)),oq 2 (.mv (.t 26)),oq 3 (.mv (.v (.int .i64 0)))]) .ret))))))
@[go_sem] def c8_16_wp:=wp_of c8_16.eq_1
def c8:AFn:=⟨27,[.t 2,.t 3],c8_16⟩
theorem c8_ok:compF Tryz.prog Tryz.f8=some c8:=by kernel_rfl
theorem a8 {args:List AV} {σ:ASt} {R:AV->ASt->Prop} (hl:args.length<=27) (h:c8_16.wp Tryz.prog (RetQ [.t 2,.t 3] R) (init args) σ):ACalls Tryz.prog 8 args σ R:=acalls_of Tryz.func8 c8_ok hl h
/-! 9: tabular/seq.New -/
def c9_24:ACode := .seq (.ops [ oq 2 (.mv (.v .nilp)),oq 3 (.mv (.v (.int .i64 0)))]) (.seq (.ops [ oq 8 (.mv (.t 0)),oe 9 (.call 8 [(.t 8)]),oq 7 (.mv (.t 9)),oq 10 (.ext 0 (.t 7)),oq 11 (.ext 1 (.t 7)),oq 4 (.mv (.t 10)),oq 5 (.mv (.t 11))]) (.seq (.seq (.ops [ oq 12 (.mv (.t 5)),oq 13 (.bin .neq (.t 12) (.v (.int .i64 0)))]) (.cond (.t 13) (.seq (.ops [ oq 14 (.mv (.t 5)),oq 2 (.mv (.v .nilp)),oq 3 (.mv (.t 14))]) .ret) .skip)) (.seq (.ops [ oq 16 (.mv (.t 0)),oe 17 (.call 30 [(.t 16)]),oq 15 (.mv (.t 17)),oq 18 (.ext 0 (.t 15)),oq 19 (.ext 1 (.t 15)),oq 6 (.mv (.t 18)),oq 5 (.mv (.t 19))]) (.seq (.seq (.ops [ oq 20 (.mv (.t 5)),oq 21 (.bin .neq (.t 20) (.v (.int .i64 0)))]) (.cond (.t 21) (.seq (.ops [ oq 22 (.mv (.t 5)),oq 2 (.mv (.v .nilp)),oq 3 (.mv (.t 22))]) .ret) .skip)) (.dfr 31 (.t 6) 23 (.seq (.ops [ oq 24 (.mv (.t 6)),oe 25 (.call 34 [(.t 24)]),oq 26 (.build [(.bool false),(.int .i64 0),(.sl .full []),(.sl .full []),(.sl .full [])] [(0,1,(.v (.bool true)))]),oe 27 (.box (.t 26)),oe 28 (.call 35 [(.t 25),(.t 27)])]) (.seq (.ops [ oq 29 (.mv (.t 6)),oq 32 (.mv (.t 4)),oe 30 (.call 34 [(.t 29)]),oq 31 (.slfrom (false,1) (.t 30) (.v (.int .i64 496))),oe 33 (.call 37 [(.t 32)]),oq 34 (.conv .u32 (.t 33)),oe 35 (.call 36 [(.t 31),(.t 34)])]) (.seq (.ops [ oq 36 (.mv (.t 0)),oq 37 (.mv (.t 6)),oe 38 (.call 32 [(.t 37)]),oq 39 (.mv (.t 4)),oq 40 (.build [.nilp,(.int .i64 0),.nilp] [(0,1,(.t 36)),(1,1,(.t 38)),(2,1,(.t 39))]),oe 41 (.box (.t 40)),oq 2 (.mv (.t 41)),oq 3 (.mv (.v (.int .i64 0)))]) .ret))))))))
@[go_sem] def c9_24_wp:=wp_of c9_24.eq_1
def c9:AFn:=⟨42,[.t 2,.t 3],c9_24⟩
theorem c9_ok:compF Tryz.prog Tryz.f9=some c9:=by kernel_rfl
theorem a9 {args:List AV} {σ:ASt} {R:AV->ASt->Prop} (hl:args.length<=42) (h:c9_24.wp Tryz.prog (RetQ [.t 2,.t 3] R) (init args) σ):ACalls Tryz.prog 9 args σ R:=acalls_of Tryz.func9 c9_ok hl h
/-! 37: (*tabular/tree.Tree).Root -/
def c37_3:ACode := .seq (.ops [ oq 2 (.mv (.v (.int .i64 0)))]) (.seq (.ops [ oq 3 (.mv (.t 0)),oq 4 (.nc (.t 3)),oq 5 (.fa 1 (.t 4)),oq 6 (.ld none (.t 5)),oq 2 (.mv (.t 6))]) .ret)
@[go_sem] def c37_3_wp:=wp_of c37_3.eq_1
def c37:AFn:=⟨7,[.t 2],c37_3⟩
theorem c37_ok:compF Tryz.prog Tryz.f37=some c37:=by kernel_rfl
theorem a37 {args:List AV} {σ:ASt} {R:AV->ASt->Prop} (hl:args.length<=7) (h:c37_3.wp Tryz.prog (RetQ [.t 2] R) (init args) σ):ACalls Tryz.prog 37 args σ R:=acalls_of Tryz.func37 c37_ok hl h
end Go.A
namespace Go.A
open Go.Proofs
section
variable {base σ:ASt} {p k t root troot s a b:Nat} {m:PX} {pg pg':Pgs} {T T':Nat->Prop} {M M':Nat->Option Nat} {A B:List Nat}
set_option maxHeartbeats 1000000 in
theorem trnew_ok (h:PoolAt base σ p m k pg) (hroom:(k:Int)<m.most) :
  ACalls Tryz.prog 8 [.ptr p 0] σ fun w σ'=>∃ (tb q:Nat) (b':List UInt8),w = .tuple [.ptr tb 0,.int .i64 0]/\base tb=none/\(pg q=none/\1<=q/\q<60000)/\TLeaf b' [] []/\PoolAt (base.set tb (some (.obj [.ptr p 0,.int .i64 q]))) σ' p m (k+1) (pset pg q (some b')):=by
 refine a8 (by simp) ?_
 simp (disch:=first|assumption|omega|(simp only [List.length_append,List.length_cons,List.length_nil];omega)) only [go_sem]
 refine (pltake_ok h hroom).mono ?_
 rintro v σ1 ⟨q,fa,xa,c,dirty,rfl,hpq,hq1,hq2,hxa,hck,hc,h1⟩
 have hpage:=plpage_ok h1
 simp (disch:=first|assumption|omega|(simp only [List.length_append,List.length_cons,List.length_nil];omega)) only [go_sem]
 refine hpage.mono ?_
 rintro v σ1' ⟨rfl,rfl⟩
 simp (disch:=first|assumption|omega|(simp only [List.length_append,List.length_cons,List.length_nil];omega)) only [go_sem]
 refine boxC_by rfl fun tb htb=>?_
 have hbt:(base.set xa (some (.obj (bytesAV (List.replicate 504 0))))) tb=none:=by
  cases hc:(base.set xa (some (.obj (bytesAV (List.replicate 504 0))))) tb with
  | none=>rfl
  | some r=>rw [h1.at hc] at htb;cases htb
 have htx:tb≠xa:=fun e=>by rw [e,ASt.set_same] at hbt;cases hbt
 have hb0:base tb=none:=by rw [ASt.set_ne htx] at hbt;exact hbt
 have h2:=h1.set (x:=tb) (some (.obj [.ptr p 0,.int .i64 q])) (.inr htb) (ck_ne h1.ck hbt)
 simp (disch:=first|assumption|omega|(simp only [List.length_append,List.length_cons,List.length_nil];omega)) only [go_sem]
 refine (pledit_ok h2 ((ASt.set_ne (Ne.symm htx)).trans (ASt.set_same _ _ _)) List.length_replicate (.inr (pset_same _ _ _))).mono ?_
 rintro v σ2 ⟨rfl,h3⟩
 simp (disch:=first|assumption|omega|(simp only [List.length_append,List.length_cons,List.length_nil];omega)) only [go_sem]
 refine boxC_by rfl fun n hn=>?_
 have hbn:((base.set xa (some (.obj (bytesAV (List.replicate 504 0))))).set tb (some (.obj [.ptr p 0,.int .i64 q]))) n=none:=by
  cases hc:((base.set xa (some (.obj (bytesAV (List.replicate 504 0))))).set tb (some (.obj [.ptr p 0,.int .i64 q]))) n with
  | none=>rfl
  | some r=>rw [h3.at hc] at hn;cases hn
 have hnt:n≠tb:=fun e=>by rw [e,ASt.set_same] at hbn;cases hbn
 have hnx:n≠xa:=fun e=>by rw [e,ASt.set_ne (Ne.symm htx),ASt.set_same] at hbn;cases hbn
 have hn0:base n=none:=by rw [ASt.set_ne hnt,ASt.set_ne hnx] at hbn;exact hbn
 have h4:=h3.set (x:=n) (some (.obj [.bool true,.sl .full [],.sl .full [],.sl .full []])) (.inr hn) (ck_ne h3.ck hbn)
 have hX:=h4.at (x:=xa) ((ASt.set_ne (Ne.symm hnx)).trans ((ASt.set_ne (Ne.symm htx)).trans (ASt.set_same _ _ _)))
 have hN:=h4.at (ASt.set_same _ n _)
 simp (disch:=first|assumption|omega|(simp only [List.length_append,List.length_cons,List.length_nil];omega)) only [go_sem]
 refine (trenc_ok (nd := .leaf [] []) hX List.length_replicate hc ⟨_,hN,⟨.full,.full,.full,rfl⟩⟩ hnx ⟨rfl,by simp,fun x hx=>by simp at hx,fun x hx=>by simp at hx⟩).mono ?_
 rintro v σ3 ⟨rfl,b',hb',rfl⟩
 have h5:=h4.set (x:=xa) (some (.obj (bytesAV b'))) (.inl (by rw [ASt.set_ne (Ne.symm hnx),ASt.set_ne (Ne.symm htx),ASt.set_same];simp)) hck
 have hun:=plunpin_d h5 (ASt.set_same _ _ _) hb'.len (.inl rfl) hck
 have hpp:pset (pset pg q (some (List.replicate 504 0))) q (some b')=pset pg q (some b'):=by
  funext z
  unfold pset
  split<;>rfl
 rw [hpp] at hun
 simp (disch:=first|assumption|omega|(simp only [List.length_append,List.length_cons,List.length_nil];omega)) only [go_sem]
 refine hun.mono ?_
 rintro v σ4 ⟨rfl,h6⟩
 refine retC_by (.refl _) (.refl _) ⟨tb,q,b',rfl,hb0,⟨hpq,hq1,hq2⟩,hb',h6.less (fun x r hx=>?_) (h.ck.away (ck_ne h.ck hb0))⟩
 by_cases e1:x=tb
 ·subst e1
  rw [ASt.set_same] at hx
  rw [ASt.set_ne htx,ASt.set_ne htx,ASt.set_ne (Ne.symm hnt),ASt.set_same];exact hx
 ·rw [ASt.set_ne e1] at hx
  have e2:x≠xa:=fun e=>by rw [e,hxa] at hx;cases hx
  have e3:x≠n:=fun e=>by rw [e,hn0] at hx;cases hx
  rw [ASt.set_ne e2,ASt.set_ne e2,ASt.set_ne e3,ASt.set_ne e1,ASt.set_ne e2];exact hx
theorem trroot_ok (ht:σ t=some (.obj [.ptr p 0,.int .i64 troot])):ACalls Tryz.prog 37 [.ptr t 0] σ fun w σ'=>w = .int .i64 troot/\σ'=σ:=by
 refine a37 (by simp) ?_
 simp (disch:=first|assumption|omega|(simp only [List.length_append,List.length_cons,List.length_nil];omega)) only [go_sem,ht]
 exact retC_by (.refl _) (.refl _) ⟨rfl,rfl⟩
set_option maxHeartbeats 2000000 in
theorem sqnew_l (h:PoolAt base σ p m k pg) (hroom:(k:Int)+2<=m.most) :
  ACalls Tryz.prog 9 [.ptr p 0] σ fun w σ'=>∃ (s t root troot:Nat) (base':ASt) (b1 b2:List UInt8),w = .tuple [.ptr s 0,.int .i64 0]/\Kept base base'/\base' s=some (.obj [.ptr p 0,.int .i64 root,.ptr t 0])/\base' t=some (.obj [.ptr p 0,.int .i64 troot])/\(pg troot=none/\pg root=none/\root≠troot)/\TLeaf b1 [] []/\SLeaf b2 0 []/\PoolAt base' σ' p m (k+2) (pset (pset pg troot (some b1)) root (some b2)):=by
 refine a9 (by simp) ?_
 simp (disch:=first|assumption|omega|(simp only [List.length_append,List.length_cons,List.length_nil];omega)) only [go_sem]
 refine (trnew_ok h (by omega)).mono ?_
 rintro v σ0 ⟨tb,tq,tbb,rfl,htb,⟨tq1,tq2,tq3⟩,htl,h0⟩
 have hbtb:=ASt.set_same base tb (some (.obj [.ptr p 0,.int .i64 tq]))
 have hkb:Kept base (base.set tb (some (.obj [.ptr p 0,.int .i64 tq]))):=(Kept.refl base).set htb
 generalize base.set tb (some (.obj [.ptr p 0,.int .i64 tq]))=base2 at *
 simp (disch:=first|assumption|omega|(simp only [List.length_append,List.length_cons,List.length_nil];omega)) only [go_sem]
 refine (pltake_ok h0 (by omega)).mono ?_
 rintro v σ1 ⟨q,fa,xa,c,dirty,rfl,hpq,hq1,hq2,hxa,hck,hc,h1⟩
 simp (disch:=first|assumption|omega|(simp only [List.length_append,List.length_cons,List.length_nil];omega)) only [go_sem]
 refine (pledit_ok h1 (ASt.set_same _ _ _) List.length_replicate (.inr (pset_same _ _ _))).mono ?_
 rintro v σ2 ⟨rfl,h2⟩
 simp (disch:=first|assumption|omega|(simp only [List.length_append,List.length_cons,List.length_nil];omega)) only [go_sem]
 refine boxC_by rfl fun n hn=>?_
 have hbn:(base2.set xa (some (.obj (bytesAV (List.replicate 504 0))))) n=none:=by
  cases hc:(base2.set xa (some (.obj (bytesAV (List.replicate 504 0))))) n with
  | none=>rfl
  | some r=>rw [h2.at hc] at hn;cases hn
 have hnx:n≠xa:=fun e=>by rw [e,ASt.set_same] at hbn;cases hbn
 have hn0:base2 n=none:=by rw [ASt.set_ne hnx] at hbn;exact hbn
 have h3:=h2.set (x:=n) (some (.obj [.bool true,.int .i64 0,.sl .full [],.sl .full [],.sl .full []])) (.inr hn) (ck_ne h2.ck hbn)
 have hX:=h3.at (x:=xa) ((ASt.set_ne (Ne.symm hnx)).trans (ASt.set_same _ _ _))
 have hN:=h3.at (ASt.set_same _ n _)
 simp (disch:=first|assumption|omega|(simp only [List.length_append,List.length_cons,List.length_nil];omega)) only [go_sem]
 refine (sqenc_ok (nd := .leaf 0 []) hX List.length_replicate hc hN ⟨.full,rfl⟩ hnx ⟨by simp,by omega,fun x hx=>by simp at hx⟩).mono ?_
 rintro v σ3 ⟨rfl,b',hb',rfl⟩
 have h4:=h3.set (x:=xa) (some (.obj (bytesAV b'))) (.inl (by rw [ASt.set_ne (Ne.symm hnx),ASt.set_same];simp)) hck
 have hs496:slV (false,1) (.msl xa 0 504 c) 496 504=some (.msl xa 496 (504-496) (c-496)):=slV_page (o:=496) (by omega) hc
 have htn:tb≠n:=fun e=>by rw [e,hn0] at hbtb;cases hbtb
 have htx:tb≠xa:=fun e=>by rw [e,hxa] at hbtb;cases hbtb
 have wq:IntKind.wrap .u32 (tq:Int)=(tq:Int):=by rw [IntKind.wrap_u32];omega
 simp (disch:=first|assumption|omega|(simp only [List.length_append,List.length_cons,List.length_nil];omega)) only [go_sem]
 refine (pledit_ok h4 (ASt.set_same _ _ _) (SPg.len hb') (.inl rfl)).mono ?_
 rintro v σ5 ⟨rfl,h5⟩
 have hroot:=trroot_ok (h5.at ((ASt.set_ne htx).trans ((ASt.set_ne htn).trans ((ASt.set_ne htx).trans hbtb))))
 have hX5:=h5.at (ASt.set_same _ xa (some (.obj (bytesAV b'))))
 have hput:=mput32_ok (o:=496) (n:=504-496) (c:=c-496) (v:=tq) hX5 (by rw [SPg.len hb'];omega) (by omega) (by omega)
 have hb2:SLeaf (spl b' 496 (le32 tq)) 0 []:=by
  have hb':SLeaf b' 0 []:=hb'
  have hl:496+(le32 tq).length<=b'.length:=by rw [le32_len,hb'.len];omega
  exact ⟨by rw [spl_len hl];exact hb'.len,by rw [get_else hl (by omega)];exact hb'.b0,by rw [get_else hl (by omega)];exact hb'.b1,by rw [bat_else hl (by omega)];exact hb'.ub,by simp,by omega,fun x hx=>by simp at hx,fun i x hx=>by simp at hx⟩
 generalize spl b' 496 (le32 tq)=b2 at *
 simp (disch:=first|assumption|omega|(simp only [List.length_append,List.length_cons,List.length_nil];omega)) only [go_sem,hs496]
 refine hroot.mono ?_
 rintro v σ6 ⟨rfl,rfl⟩
 simp (disch:=first|assumption|omega|(simp only [List.length_append,List.length_cons,List.length_nil];omega)) only [go_sem,wq]
 refine hput.mono ?_
 rintro v σ7 ⟨rfl,rfl⟩
 have h6:=h5.set (x:=xa) (some (.obj (bytesAV b2))) (.inl (by rw [ASt.set_same];simp)) hck
 have hpage:=plpage_ok h6
 simp (disch:=first|assumption|omega|(simp only [List.length_append,List.length_cons,List.length_nil];omega)) only [go_sem]
 refine hpage.mono ?_
 rintro v σ8 ⟨rfl,rfl⟩
 simp (disch:=first|assumption|omega|(simp only [List.length_append,List.length_cons,List.length_nil];omega)) only [go_sem]
 refine boxC_by rfl fun sb hsb=>?_
 have hsx:sb≠xa:=fun e=>by rw [e,ASt.set_same] at hsb;cases hsb
 have hsn:sb≠n:=fun e=>by
  have:=h6.at (x:=n) ((ASt.set_ne hnx).trans ((ASt.set_ne hnx).trans (ASt.set_same _ _ _)))
  rw [<-e,hsb] at this;cases this
 have hs0:base2 sb=none:=by
  cases hc:base2 sb with
  | none=>rfl
  | some r=>
    have:=h6.at ((ASt.set_ne hsx).trans ((ASt.set_ne hsx).trans ((ASt.set_ne hsn).trans ((ASt.set_ne hsx).trans hc))))
    rw [hsb] at this;cases this
 have hst:sb≠tb:=fun e=>by rw [e,hbtb] at hs0;cases hs0
 have h7:=h6.set (x:=sb) (some (.obj [.ptr p 0,.int .i64 q,.ptr tb 0])) (.inr hsb) (ck_ne h0.ck hs0)
 have hun:=plunpin_d h7 ((ASt.set_ne (Ne.symm hsx)).trans (ASt.set_same _ _ _)) hb2.len (.inl rfl) hck
 have hpp:pset (pset (pset pg tq (some tbb)) q (some (List.replicate 504 0))) q (some b2)=pset (pset pg tq (some tbb)) q (some b2):=by
  funext z
  unfold pset
  split<;>rfl
 rw [hpp] at hun
 have hqt:q≠tq:=fun e=>by rw [e,pset_same] at hpq;cases hpq
 simp (disch:=first|assumption|omega|(simp only [List.length_append,List.length_cons,List.length_nil];omega)) only [go_sem]
 refine hun.mono ?_
 rintro v σ9 ⟨rfl,h8⟩
 have hq0:pg q=none:=by rw [pset_ne hqt] at hpq;exact hpq
 refine retC_by (.refl _) (.refl _) ⟨sb,tb,q,tq,base2.set sb (some (.obj [.ptr p 0,.int .i64 q,.ptr tb 0])),tbb,b2,rfl,hkb.set (hkb.gone hs0),ASt.set_same _ _ _,(ASt.set_ne (Ne.symm hst)).trans hbtb,⟨tq1,hq0,hqt⟩,htl,hb2,h8.less (fun x r hx=>?_) (h0.ck.away (ck_ne h0.ck hs0))⟩
 by_cases e1:x=sb
 ·subst e1
  rw [ASt.set_same] at hx
  rw [ASt.set_ne hsx,ASt.set_same];exact hx
 ·rw [ASt.set_ne e1] at hx
  have e2:x≠xa:=fun e=>by rw [e,hxa] at hx;cases hx
  have e3:x≠n:=fun e=>by rw [e,hn0] at hx;cases hx
  rw [ASt.set_ne e2,ASt.set_ne e1,ASt.set_ne e2,ASt.set_ne e2,ASt.set_ne e3,ASt.set_ne e2];exact hx
end
end Go.A
namespace Go.A
open Go.Proofs
def LfT (pg:Pgs) (root:Nat) (M:Nat->Option Nat) (c:Nat):Prop:=∃ b ks vs,pg root=some b/\TLeaf b ks vs/\ks.Pairwise (· < ·)/\(∀ k,M k=lk ks vs k)/\ks.length=c
section
variable {base base' σ σ':ASt} {p k page t root troot n s up c:Nat} {m:PX} {pg pg':Pgs} {ids:List Nat} {r:Role} {M:Nat->Option Nat}
theorem LfT.tr (h:LfT pg root M c):TrAt pg root (fun q=>q=root) M:=by
 obtain ⟨b,ks,vs,h1,h2,h3,h4,h5⟩:=h
 exact .inl ⟨b,ks,vs,h1,h2,h3,fun q=>Iff.rfl,h4⟩
theorem LfT.frame (h:LfT pg root M c) (he:pg' root=pg root):LfT pg' root M c:=by
 obtain ⟨b,ks,vs,h1,h2⟩:=h
 exact ⟨b,ks,vs,he.trans h1,h2⟩
theorem lfput_ok (h:PoolAt base σ p m k pg) (ht:base t=some (.obj [.ptr p 0,.int .i64 root])) (hT:LfT pg root M c) {key v:Nat} (hk:key<18446744073709551616) (hv:v<18446744073709551616) (hM:M key=none) (hc:c<30) :
  ACalls Tryz.prog 19 [.ptr t 0,.int .u64 key,.int .u64 v] σ fun r σ'=>r = .int .i64 0/\∃ b',LfT (pset pg root (some b')) root (upM M key (some v)) (c+1)/\PoolAt base σ' p m k (pset pg root (some b')):=by
 obtain ⟨b,ks,vs,h1,h2,h3,h4,h5⟩:=hT
 have hle:=lowI_le ks key
 have hn:=h2.n
 have hnm:key ∉ ks:=fun e=>by
  obtain ⟨v0,hv0⟩:=lk_some (vs:=vs) hn e
  rw [<-h4,hM] at hv0;cases hv0
 have hf:ks[lowI ks key]? ≠ some key:=fun e=>hnm ((low_mem h3).2 e)
 refine (trPut_stay (Q:=fun k' pg2=>k'=k/\∃ b',pg2=pset pg root (some b')/\LfT pg2 root (upM M key (some v)) (c+1)) h ht ((trput_ins (deep:=0) h ht h1 h2 h3 hk hv (by omega) hf (by omega)).mono ?_)).mono ?_
 ·rintro w σ' ⟨rfl,b',hb',hp⟩
  refine ⟨rfl,k,_,⟨rfl,b',rfl,b',_,_,pset_same _ _ _,hb',pair_insL h3 hnm,fun x=>?_,by rw [insL_len hle];omega⟩,hp⟩
  rw [lk_ins hn hle hnm]
  unfold upM
  rw [h4]
 ·rintro w σ' ⟨rfl,k',pg2,⟨rfl,b',rfl,hl⟩,hp⟩
  exact ⟨rfl,b',hl,hp⟩
theorem lfdrop_ok (h:PoolAt base σ p m k pg) (ht:base t=some (.obj [.ptr p 0,.int .i64 root])) (hT:LfT pg root M c) {key v:Nat} (hM:M key=some v) :
  ACalls Tryz.prog 14 [.ptr t 0,.int .u64 key] σ fun r σ'=>r = .tuple [.bool true,.int .i64 0]/\∃ b',LfT (pset pg root (some b')) root (upM M key none) (c-1)/\PoolAt base σ' p m k (pset pg root (some b')):=by
 obtain ⟨b,ks,vs,h1,h2,h3,h4,h5⟩:=hT
 have hf:=(low_mem h3).1 (lk_mem ((h4 key).symm.trans hM))
 have hll:=(List.getElem?_eq_some_iff.1 hf).1
 refine (trDrop_ok (Q:=fun pg2=>∃ b',pg2=pset pg root (some b')/\LfT pg2 root (upM M key none) (c-1)) h ht ((trdrop_leaf (deep:=0) h ht h1 h2 h3 (by omega) hf).mono ?_)).mono ?_
 ·rintro w σ' ⟨rfl,b',hb',hp⟩
  refine ⟨_,rfl,_,⟨b',rfl,b',_,_,pset_same _ _ _,hb',pair_del h3,fun x=>?_,by rw [delL_len hll];omega⟩,hp⟩
  rw [lk_del h3 h2.n hf]
  unfold upM
  rw [h4]
 ·rintro w σ' ⟨rfl,pg2,⟨b',rfl,hl⟩,hp⟩
  exact ⟨rfl,b',hl,hp⟩
structure SqL (pg:Pgs) (root troot:Nat) (A:List Nat):Prop where
 lf:∃ b,pg root=some b/\SLeaf b 0 A
 tr:∃ M,LfT pg troot M A.length/\∀ x,M x=if x∈A then some root else none
 ne:root≠troot
 nd:A.Nodup
 iu:u64L A
theorem SqL.frame {A:List Nat} (h:SqL pg root troot A) (h1:pg' root=pg root) (h2:pg' troot=pg troot):SqL pg' root troot A:=by
 obtain ⟨b,q1,q2⟩:=h.lf
 obtain ⟨M,q3,q4⟩:=h.tr
 exact ⟨⟨b,h1.trans q1,q2⟩,⟨M,q3.frame h2,q4⟩,h.ne,h.nd,h.iu⟩
theorem sqlen_one {A:List Nat} (h:PoolAt base σ p m k pg) (hs:base s=some (.obj [.ptr p 0,.int .i64 root,.ptr t 0])) (hS:SqL pg root troot A) :
  ACalls Tryz.prog 17 [.ptr s 0] σ fun v σ'=>v = .tuple [.int .i64 A.length,.int .i64 0]/\PoolAt base σ' p m k pg:=by
 obtain ⟨b,q1,q2⟩:=hS.lf
 exact sqlen_ok (nd := .leaf 0 A) h hs q1 q2 fun r σ n hn hr=>sqcount_leaf hn hr
theorem sqfind_one {A:List Nat} (h:PoolAt base σ p m k pg) (hs:base s=some (.obj [.ptr p 0,.int .i64 root,.ptr t 0])) (ht:base t=some (.obj [.ptr p 0,.int .i64 troot])) (hS:SqL pg root troot A) {id i:Nat} (hi:A[i]? = some id) :
  ACalls Tryz.prog 15 [.ptr s 0,.int .u64 id] σ fun w σ'=>w = .tuple [.int .i64 i,.int .i64 0]/\PoolAt base σ' p m k pg:=by
 obtain ⟨b,q1,q2⟩:=hS.lf
 obtain ⟨M,q3,q4⟩:=hS.tr
 have hno:∀ j,j<i->A[j]? ≠ some id:=fun j hj e=>by
  obtain ⟨x1,x2⟩:=List.getElem?_eq_some_iff.1 hi
  obtain ⟨y1,y2⟩:=List.getElem?_eq_some_iff.1 e
  exact List.pairwise_iff_getElem.1 hS.nd j i y1 x1 hj (y2.trans x2.symm)
 have hss:=h.at hs
 have hget:=trget_at h ht q3.tr id
 have hid:M id=some root:=by rw [q4,if_pos (List.mem_of_getElem? hi)]
 rw [hid] at hget
 have hg1:(some root:Option Nat).getD 0=root:=rfl
 have hg2:(some root:Option Nat).isSome=true:=rfl
 rw [hg1,hg2] at hget
 have hpr:=(h.rng q1).2
 have hum:A.length<=48:=q2.most
 have wp:IntKind.wrap .i64 (root:Int)=(root:Int):=by rw [IntKind.wrap_i64];omega
 have hi0':¬ (i:Int)<0:=by omega
 refine a15 (by simp) ?_
 simp (disch:=first|assumption|omega|(simp only [List.length_append,List.length_cons,List.length_nil];omega)) only [go_sem,hss]
 refine hget.mono ?_
 rintro w σ1 ⟨rfl,h1⟩
 simp (disch:=first|assumption|omega|(simp only [List.length_append,List.length_cons,List.length_nil];omega)) only [go_sem,wp]
 refine (sqload_i (nd := .leaf 0 A) h1 hs q1 q2).mono ?_
 rintro w σ2 ⟨lc,rfl,⟨k1,hlc⟩,h2⟩
 injection hlc with hlc
 have hidx:=xIdx64_ok k1 (l:=A) (by omega) hi hno
 rw [hlc]
 simp (disch:=first|assumption|omega|(simp only [List.length_append,List.length_cons,List.length_nil];omega)) only [go_sem]
 refine hidx.use ?_
 simp (disch:=first|assumption|omega|(simp only [List.length_append,List.length_cons,List.length_nil];omega)) only [go_sem,hi0']
 refine wp_loop_on (fun (j:Nat) a1 s2=>(a1 0 = .ptr s 0/\a1 55 = .int .i64 0/\a1 10 = .imm lc/\a1 11 = .int .i64 i)/\s2=σ2) (fun i=>1-i) 0 ⟨?_,rfl⟩ ?_
 ·rw [hlc]
  simp (disch:=first|assumption|omega|(simp only [List.length_append,List.length_cons,List.length_nil];omega)) only [go_sem]
 rintro j a1 s2 ⟨hf,rfl⟩
 rw [hlc] at hf
 have z0:((0:Nat):Int)=0:=rfl
 simp (disch:=first|assumption|omega|(simp only [List.length_append,List.length_cons,List.length_nil];omega)) only [go_sem,hf,z0]
 exact retC_by (.refl _) (.refl _) ⟨rfl,h2⟩
set_option maxHeartbeats 1000000 in
theorem sqins_l {A:List Nat} (h:PoolAt base σ p m k pg) (hs:base s=some (.obj [.ptr p 0,.int .i64 root,.ptr t 0])) (ht:base t=some (.obj [.ptr p 0,.int .i64 troot])) (hS:SqL pg root troot A) {i id:Nat} (hi:i<=A.length) (hid:id<18446744073709551616) (hno:id ∉ A) (hl:A.length<30) :
  ACalls Tryz.prog 20 [.ptr s 0,.int .i64 i,.int .u64 id] σ fun w σ'=>w = .int .i64 0/\∃ b1 b2,SqL (pset (pset pg troot (some b1)) root (some b2)) root troot (insL A i id)/\PoolAt base σ' p m k (pset (pset pg troot (some b1)) root (some b2)):=by
 obtain ⟨b,q1,q2⟩:=hS.lf
 obtain ⟨M,q3,q4⟩:=hS.tr
 have hM:M id=none:=by rw [q4,if_neg hno]
 have hss:=h.at hs
 have hi0:¬ (i:Int)<0:=by omega
 have hget:=trget_at h ht q3.tr id
 rw [hM] at hget
 have hg1:(none:Option Nat).getD 0=0:=rfl
 have hg2:(none:Option Nat).isSome=false:=rfl
 rw [hg1,hg2] at hget
 have hpr:=h.rng q1
 have wq:IntKind.wrap .u64 (root:Int)=(root:Int):=by rw [IntKind.wrap_u64];omega
 have hgt:¬ (A.length:Int)<(i:Int):=by omega
 have hlen:(insL A i id).length=A.length+1:=insL_len hi
 have hiu:u64L (insL A i id):=fun x hx=>(mem_ins.1 hx).elim (fun e=>by rw [e];exact hid) (hS.iu x)
 refine a20 (by simp) ?_
 simp (disch:=first|assumption|omega|(simp only [List.length_append,List.length_cons,List.length_nil];omega)) only [go_sem,hi0,hss]
 refine hget.mono ?_
 rintro w σ1 ⟨rfl,h1⟩
 simp (disch:=first|assumption|omega|(simp only [List.length_append,List.length_cons,List.length_nil];omega)) only [go_sem]
 refine (sqdown_one h1 hs q1 q2 i).mono ?_
 rintro w σ2 ⟨n,x,base1,rfl,hm,hO,hp⟩
 have hn:=hp.at hm.hn
 have hcx:=hm.hx.cell
 have hlx:=hm.hx.len
 have hi1:=(hm.hx.mono (σ':=σ2) fun X r _ hX=>hp.at hX).ins64 (i:=i) (x:=id) hi (by omega)
 simp (disch:=first|assumption|omega|(simp only [List.length_append,List.length_cons,List.length_nil];omega)) only [go_sem,hn,hcx,hlx,hgt]
 refine hi1.mono ?_
 rintro w σ3 ⟨rfl,rfl⟩
 have hn3:lessB σ2 x n=some (.obj [.bool true,.int .i64 ((0:Nat):Int),x,.sl .full [],.sl .full []]):=(lessB_eq hm.nx).trans hn
 have hxn:=node_hard (ky := .u64) (ly := []) hO hm.new hm.hn hm.hx (OwnR.nil _ _ _) hm.nx (by intro h;cases h) (fun X _ h=>by cases h) h.ck hp (.obj [.bool true,.int .i64 ((0:Nat):Int),.sl .shr (kv .u64 (insL A i id)),.sl .full [],.sl .full []])
 have hlb:lessB (lessB σ2 x) (.sl .full [])=lessB σ2 x:=rfl
 rw [hlb] at hxn
 have hr:SNodeR (.obj [.bool true,.int .i64 ((0:Nat):Int),.sl .shr (kv .u64 (insL A i id)),.sl .full [],.sl .full []]) (.leaf 0 (insL A i id)):=⟨_,rfl⟩
 have hsn:s≠n:=fun e=>by rw [e,hm.new] at hs;cases hs
 have htn:t≠n:=fun e=>by rw [e,hm.new] at ht;cases ht
 have hs3:=hxn.at ((ASt.set_ne hsn).trans hs)
 rw [ASt.set_ne hsn] at hs3
 have hput:=lfput_ok hxn ((ASt.set_ne htn).trans ht) q3 (key:=id) (v:=root) hid (by omega) hM hl
 generalize hKV:kv .u64 (insL A i id)=KV at *
 simp (disch:=first|assumption|omega|(simp only [List.length_append,List.length_cons,List.length_nil];omega)) only [go_sem,hn3,hcx,hs3,hsn,wq]
 refine hput.mono ?_
 rintro w σ4 ⟨rfl,b1,hT',hp4⟩
 simp (disch:=first|assumption|omega|(simp only [List.length_append,List.length_cons,List.length_nil];omega)) only [go_sem]
 refine (sqgrow_stay (Q:=fun pg2=>∃ b',SLeaf b' 0 (insL A i id)/\pg2=pset (pset pg troot (some b1)) root (some b')) hp4 h.ck hm.new hs hr (by omega) (by omega) hiu (by rw [pset_ne hS.ne];exact q1) fun σ' b' hb' hp'=>?_).mono ?_
 ·refine (sqtell_none (s:=s) (page:=root) (hp'.at (ASt.set_same base n _)) hr).mono ?_
  rintro w σ2 ⟨rfl,rfl⟩
  exact ⟨rfl,_,⟨b',hb',rfl⟩,hp'⟩
 ·rintro w σ5 ⟨rfl,pg2,⟨b',hb',rfl⟩,hp2⟩
  simp (disch:=first|assumption|omega|(simp only [List.length_append,List.length_cons,List.length_nil];omega)) only [go_sem]
  refine retC_by (.refl _) (.refl _) ⟨rfl,b1,b',⟨⟨b',pset_same _ _ _,hb'⟩,⟨_,hlen▸hT'.frame (pset_ne (Ne.symm hS.ne)),fun x=>?_⟩,hS.ne,nodup_ins hS.nd hno hi,hiu⟩,hp2⟩
  unfold upM
  rw [q4]
  by_cases e:x=id
  ·rw [if_pos e,if_pos (mem_ins.2 (.inl e))]
  ·rw [if_neg e]
   by_cases e2:x∈A
   ·rw [if_pos e2,if_pos (mem_ins.2 (.inr e2))]
   ·rw [if_neg e2,if_neg (fun q=>(mem_ins.1 q).elim e e2)]
theorem sqlower_leaf (hn:σ n=some r) (hr:SNodeR r (.leaf up ids)):ACalls Tryz.prog 117 [.ptr s 0,.ptr n 0] σ fun w σ'=>w = .int .i64 0/\σ'=σ:=by
 obtain ⟨k1,rfl⟩:=hr
 refine a117 (by simp) ?_
 simp (disch:=first|assumption|omega|(simp only [List.length_append,List.length_cons,List.length_nil];omega)) only [go_sem,hn]
 exact retC_by (.refl _) (.refl _) ⟨rfl,rfl⟩
theorem sqshrink_root (hp:PoolAt (base.set n (some r)) σ p m k pg) (hck:CkT base) (hnew:base n=none) (hs:base s=some (.obj [.ptr p 0,.int .i64 root,.ptr t 0])) (hr:SNodeR r (.leaf 0 ids)) (h48:ids.length<=48) (hiu:u64L ids) {b0:List UInt8} (hq:pg root=some b0) :
  ACalls Tryz.prog 58 [.ptr s 0,.int .i64 root,.ptr n 0] σ fun w σ'=>w = .int .i64 0/\∃ b',SLeaf b' 0 ids/\PoolAt base σ' p m k (pset pg root (some b')):=by
 have hsn:s≠n:=fun e=>by rw [e,hnew] at hs;cases hs
 have hs2:=(ASt.set_ne (σ:=base) (r:=some r) hsn).trans hs
 refine a58 (by simp) ?_
 simp (disch:=first|assumption|omega|(simp only [List.length_append,List.length_cons,List.length_nil];omega)) only [go_sem]
 refine wp_loop_on (fun (j:Nat) a1 s2=>(a1 0 = .ptr s 0/\a1 1 = .int .i64 root/\a1 12 = .int .i64 0/\a1 2 = .ptr n 0)/\s2=σ) (fun i=>1-i) 0 ⟨?_,rfl⟩ ?_
 ·simp (disch:=first|assumption|omega|(simp only [List.length_append,List.length_cons,List.length_nil];omega)) only [go_sem]
 rintro j a1 s2 ⟨hf,rfl⟩
 simp (disch:=first|assumption|omega|(simp only [List.length_append,List.length_cons,List.length_nil];omega)) only [go_sem,hf]
 refine (sqstore_ok (nd := .leaf 0 ids) hp hs2 hq ⟨r,ASt.set_same _ _ _,hr⟩ ⟨h48,by omega,hiu⟩).mono ?_
 rintro w s5 ⟨rfl,b',hb',hp5⟩
 have hn:=hp5.at (ASt.set_same base n (some r))
 have hss:=hp5.at hs2
 simp (disch:=first|assumption|omega|(simp only [List.length_append,List.length_cons,List.length_nil];omega)) only [go_sem,hf,hss]
 refine (sqlower_leaf (s:=s) hn hr).mono ?_
 rintro w s6 ⟨rfl,rfl⟩
 simp (disch:=first|assumption|omega|(simp only [List.length_append,List.length_cons,List.length_nil];omega)) only [go_sem]
 exact retC_by (.refl _) (.refl _) ⟨rfl,b',hb',hp5.drop1 hnew hck⟩
set_option maxHeartbeats 1000000 in
theorem sqdrop_l {A:List Nat} (h:PoolAt base σ p m k pg) (hs:base s=some (.obj [.ptr p 0,.int .i64 root,.ptr t 0])) (ht:base t=some (.obj [.ptr p 0,.int .i64 troot])) (hS:SqL pg root troot A) {i id:Nat} (hx:A[i]? = some id) :
  ACalls Tryz.prog 16 [.ptr s 0,.int .i64 i] σ fun w σ'=>w = .tuple [.int .u64 id,.int .i64 0]/\∃ b1 b2,SqL (pset (pset pg troot (some b1)) root (some b2)) root troot (delL A i)/\PoolAt base σ' p m k (pset (pset pg troot (some b1)) root (some b2)):=by
 obtain ⟨b,q1,q2⟩:=hS.lf
 obtain ⟨M,q3,q4⟩:=hS.tr
 have hM:M id=some root:=by rw [q4,if_pos (List.mem_of_getElem? hx)]
 have hl:A.length<=48:=q2.most
 have hi0:¬ (i:Int)<0:=by omega
 have hil:=(List.getElem?_eq_some_iff.1 hx).1
 have hge:¬ (A.length:Int)<=(i:Int):=by omega
 have hil':(i:Int)<(A.length:Int):=by omega
 have hlen:(delL A i).length=A.length-1:=by rw [delL_len hil]
 refine a16 (by simp) ?_
 simp (disch:=first|assumption|omega|(simp only [List.length_append,List.length_cons,List.length_nil];omega)) only [go_sem,hi0]
 refine (sqdown_one h hs q1 q2 i).mono ?_
 rintro w σ2 ⟨n,X0,base1,rfl,hm,hO,hp⟩
 have hn:=hp.at hm.hn
 have hcx:=hm.hx.cell
 have hlx:=hm.hx.len
 have own:=hm.hx.mono (σ':=σ2) fun X r _ hX=>hp.at hX
 have hi1:=own.del64 (i:=i) hil (by omega)
 obtain ⟨Y,cc,R,rfl,hY,hg⟩:=own.get hx
 simp (disch:=first|assumption|omega|(simp only [List.length_append,List.length_cons,List.length_nil];omega)) only [go_sem,hn,hcx,hlx,hge,hY,hg,hil',Int.toNat_natCast,Nat.zero_add]
 refine hi1.mono ?_
 rintro w σ3 ⟨rfl,rfl⟩
 have hn3:lessB σ2 (.msl Y 0 A.length cc) n=some (.obj [.bool true,.int .i64 ((0:Nat):Int),.msl Y 0 A.length cc,.sl .full [],.sl .full []]):=(lessB_eq hm.nx).trans hn
 have hxn:=node_hard (ky := .u64) (ly := []) hO hm.new hm.hn hm.hx (OwnR.nil _ _ _) hm.nx (by intro h;cases h) (fun X _ h=>by cases h) h.ck hp (.obj [.bool true,.int .i64 ((0:Nat):Int),.sl .shr (kv .u64 (delL A i)),.sl .full [],.sl .full []])
 have hlb:lessB (lessB σ2 (.msl Y 0 A.length cc)) (.sl .full [])=lessB σ2 (.msl Y 0 A.length cc):=rfl
 rw [hlb] at hxn
 have hr:SNodeR (.obj [.bool true,.int .i64 ((0:Nat):Int),.sl .shr (kv .u64 (delL A i)),.sl .full [],.sl .full []]) (.leaf 0 (delL A i)):=⟨_,rfl⟩
 have hsn:s≠n:=fun e=>by rw [e,hm.new] at hs;cases hs
 have htn:t≠n:=fun e=>by rw [e,hm.new] at ht;cases ht
 have hs3:=hxn.at ((ASt.set_ne hsn).trans hs)
 rw [ASt.set_ne hsn] at hs3
 have hdrop:=lfdrop_ok hxn ((ASt.set_ne htn).trans ht) q3 hM
 have hiu:u64L (delL A i):=u64L_del hS.iu
 generalize hKV:kv .u64 (delL A i)=KV at *
 simp (disch:=first|assumption|omega|(simp only [List.length_append,List.length_cons,List.length_nil];omega)) only [go_sem,hn3,hcx,hs3,hsn]
 refine hdrop.mono ?_
 rintro w σ4 ⟨rfl,b1,hT',hp4⟩
 simp (disch:=first|assumption|omega|(simp only [List.length_append,List.length_cons,List.length_nil];omega)) only [go_sem]
 refine (sqshrink_root hp4 h.ck hm.new hs hr (by omega) hiu (by rw [pset_ne hS.ne];exact q1)).mono ?_
 rintro w σ5 ⟨rfl,b2,hb2,hp5⟩
 simp (disch:=first|assumption|omega|(simp only [List.length_append,List.length_cons,List.length_nil];omega)) only [go_sem]
 refine retC_by (.refl _) (.refl _) ⟨rfl,b1,b2,⟨⟨b2,pset_same _ _ _,hb2⟩,⟨_,hlen▸hT'.frame (pset_ne (Ne.symm hS.ne)),fun x=>?_⟩,hS.ne,nodup_del hS.nd hil,hiu⟩,hp5⟩
 unfold upM
 rw [q4]
 by_cases e:x=id
 ·rw [if_pos e,if_neg fun q=>((del_mem hS.nd hx).1 q).2 e]
 ·rw [if_neg e]
  by_cases e2:x∈A
  ·rw [if_pos e2,if_pos ((del_mem hS.nd hx).2 ⟨e2,e⟩)]
  ·rw [if_neg e2,if_neg (fun q=>e2 ((del_mem hS.nd hx).1 q).1)]
end
end Go.A
namespace Go.A
open Go.Proofs
/-! 106: tabular/slot.lay -/
def c106_2:ACode := .seq (.ops [ oq 8 (.mv (.t 0)),oq 9 (.mv (.t 1)),oq 10 (.bin .mul (.v (.int .i64 4)) (.t 9)),oq 11 (.bin .add (.v (.int .i64 4)) (.t 10)),oq 12 (.mv (.t 2)),oe 13 (.call 109 [(.t 8),(.t 11),(.t 12)])]) (.ops [ oq 14 (.mv (.t 0)),oq 15 (.mv (.t 1)),oq 16 (.bin .mul (.v (.int .i64 4)) (.t 15)),oq 17 (.bin .add (.v (.int .i64 4)) (.t 16)),oq 18 (.bin .add (.t 17) (.v (.int .i64 2))),oq 19 (.mv (.t 3)),oe 20 (.call 109 [(.t 14),(.t 18),(.t 19)])])
@[go_sem] def c106_2_wp:=wp_of c106_2.eq_1
def c106:AFn:=⟨21,[],c106_2⟩
theorem c106_ok:compF Tryz.prog Tryz.f106=some c106:=by kernel_rfl
theorem a106 {args:List AV} {σ:ASt} {R:AV->ASt->Prop} (hl:args.length<=21) (h:c106_2.wp Tryz.prog (RetQ [] R) (init args) σ):ACalls Tryz.prog 106 args σ R:=acalls_of Tryz.func106 c106_ok hl h
/-! 107: tabular/slot.Len -/
def c107_3:ACode := .seq (.ops [ oq 2 (.mv (.v (.int .i64 0)))]) (.seq (.ops [ oq 3 (.mv (.t 0)),oe 4 (.call 149 [(.t 3),(.v (.int .i64 0))]),oq 2 (.mv (.t 4))]) .ret)
@[go_sem] def c107_3_wp:=wp_of c107_3.eq_1
def c107:AFn:=⟨5,[.t 2],c107_3⟩
theorem c107_ok:compF Tryz.prog Tryz.f107=some c107:=by kernel_rfl
theorem a107 {args:List AV} {σ:ASt} {R:AV->ASt->Prop} (hl:args.length<=5) (h:c107_3.wp Tryz.prog (RetQ [.t 2] R) (init args) σ):ACalls Tryz.prog 107 args σ R:=acalls_of Tryz.func107 c107_ok hl h
/-! 108: tabular/slot.slot -/
def c108_3:ACode := .seq (.ops [ oq 4 (.mv (.v (.int .i64 0))),oq 5 (.mv (.v (.int .i64 0)))]) (.seq (.ops [ oq 6 (.mv (.t 0)),oq 7 (.mv (.t 1)),oq 8 (.bin .mul (.v (.int .i64 4)) (.t 7)),oq 9 (.bin .add (.v (.int .i64 4)) (.t 8)),oe 10 (.call 149 [(.t 6),(.t 9)]),oq 11 (.mv (.t 0)),oq 12 (.mv (.t 1)),oq 13 (.bin .mul (.v (.int .i64 4)) (.t 12)),oq 14 (.bin .add (.v (.int .i64 4)) (.t 13)),oq 15 (.bin .add (.t 14) (.v (.int .i64 2))),oe 16 (.call 149 [(.t 11),(.t 15)]),oq 4 (.mv (.t 10)),oq 5 (.mv (.t 16))]) .ret)
@[go_sem] def c108_3_wp:=wp_of c108_3.eq_1
def c108:AFn:=⟨17,[.t 4,.t 5],c108_3⟩
theorem c108_ok:compF Tryz.prog Tryz.f108=some c108:=by kernel_rfl
theorem a108 {args:List AV} {σ:ASt} {R:AV->ASt->Prop} (hl:args.length<=17) (h:c108_3.wp Tryz.prog (RetQ [.t 4,.t 5] R) (init args) σ):ACalls Tryz.prog 108 args σ R:=acalls_of Tryz.func108 c108_ok hl h
/-! 109: tabular/slot.put -/
def c109_0:ACode := .ops [ oq 6 (.mv (.t 0)),oq 7 (.mv (.t 1)),oq 8 (.mv (.t 0)),oq 9 (.mv (.t 1)),oq 10 (.bin .add (.t 9) (.v (.int .i64 1))),oq 11 (.mv (.t 2)),oq 12 (.conv .u8 (.t 11)),oq 13 (.mv (.t 2)),oq 14 (.bin .shr (.t 13) (.v (.int .u64 8))),oq 15 (.conv .u8 (.t 14)),oq 16 (.ia 1 (.t 6) (.t 7)),oz (.store 1 (.t 16) (.t 12)),oq 17 (.ia 1 (.t 8) (.t 10)),oz (.store 1 (.t 17) (.t 15))]
@[go_sem] def c109_0_wp:=wp_of c109_0.eq_1
def c109:AFn:=⟨18,[],c109_0⟩
theorem c109_ok:compF Tryz.prog Tryz.f109=some c109:=by kernel_rfl
theorem a109 {args:List AV} {σ:ASt} {R:AV->ASt->Prop} (hl:args.length<=18) (h:c109_0.wp Tryz.prog (RetQ [] R) (init args) σ):ACalls Tryz.prog 109 args σ R:=acalls_of Tryz.func109 c109_ok hl h
/-! 125: tabular/slot.low -/
def c125_3:ACode := .seq (.ops [ oq 2 (.mv (.v (.int .i64 0)))]) (.seq (.ops [ oq 3 (.mv (.t 0)),oe 4 (.call 149 [(.t 3),(.v (.int .i64 2))]),oq 2 (.mv (.t 4))]) .ret)
@[go_sem] def c125_3_wp:=wp_of c125_3.eq_1
def c125:AFn:=⟨5,[.t 2],c125_3⟩
theorem c125_ok:compF Tryz.prog Tryz.f125=some c125:=by kernel_rfl
theorem a125 {args:List AV} {σ:ASt} {R:AV->ASt->Prop} (hl:args.length<=5) (h:c125_3.wp Tryz.prog (RetQ [.t 2] R) (init args) σ):ACalls Tryz.prog 125 args σ R:=acalls_of Tryz.func125 c125_ok hl h
/-! 149: tabular/slot.two -/
def c149_3:ACode := .seq (.ops [ oq 4 (.mv (.v (.int .i64 0)))]) (.seq (.ops [ oq 5 (.mv (.t 0)),oq 6 (.mv (.t 1)),oq 7 (.ia 1 (.t 5) (.t 6)),oq 8 (.ld none (.t 7)),oq 9 (.conv .i64 (.t 8)),oq 10 (.mv (.t 0)),oq 11 (.mv (.t 1)),oq 12 (.bin .add (.t 11) (.v (.int .i64 1))),oq 13 (.ia 1 (.t 10) (.t 12)),oq 14 (.ld none (.t 13)),oq 15 (.conv .i64 (.t 14)),oq 16 (.bin .shl (.t 15) (.v (.int .u64 8))),oq 17 (.bin .or (.t 9) (.t 16)),oq 4 (.mv (.t 17))]) .ret)
@[go_sem] def c149_3_wp:=wp_of c149_3.eq_1
def c149:AFn:=⟨18,[.t 4],c149_3⟩
theorem c149_ok:compF Tryz.prog Tryz.f149=some c149:=by kernel_rfl
theorem a149 {args:List AV} {σ:ASt} {R:AV->ASt->Prop} (hl:args.length<=18) (h:c149_3.wp Tryz.prog (RetQ [.t 4] R) (init args) σ):ACalls Tryz.prog 149 args σ R:=acalls_of Tryz.func149 c149_ok hl h
end Go.A
namespace Go.A
open Go.Proofs
def le16 (v:Nat):List UInt8 := [UInt8.ofNat v,UInt8.ofNat (v / 256)]
theorem le16_len (v:Nat):(le16 v).length=2:=rfl
def twoP (b:List UInt8) (at':Nat):Nat:=(b.getD at' 0).toNat+(b.getD (at'+1) 0).toNat*256
theorem twoP_same {b:List UInt8} {o v:Nat} (h:o+2<=b.length) (hv:v<65536):twoP (spl b o (le16 v)) o=v:=by
 unfold twoP
 rw [List.getD_eq_getElem?_getD,List.getD_eq_getElem?_getD,spl_get (by rw [le16_len];exact h),spl_get (by rw [le16_len];exact h),le16_len,if_neg (by omega),if_pos (by omega),if_neg (by omega),if_pos (by omega),show o-o=0 by omega,show o+1-o=1 by omega]
 show (UInt8.ofNat v).toNat+(UInt8.ofNat (v / 256)).toNat*256=v
 rw [UInt8.toNat_ofNat',UInt8.toNat_ofNat']
 omega
theorem twoP_else {b ys:List UInt8} {o o':Nat} (h:o+ys.length<=b.length) (hd:o'+2<=o\/o+ys.length<=o'):twoP (spl b o ys) o'=twoP b o':=by
 unfold twoP
 simp only [List.getD_eq_getElem?_getD]
 rw [get_else h (by omega),get_else h (by omega)]
section
variable {σ:ASt} {B c:Nat} {b:List UInt8}
theorem or_i64 {x y:Nat} (hx:x<9223372036854775808) (hy:y<9223372036854775808):binI .or .i64 (x:Int) (y:Int)=some (.int .i64 ((x ||| y:Nat):Int)):=by
 have e1:(BitVec.ofInt 64 (x:Int) ||| BitVec.ofInt 64 (y:Int)).toNat=x ||| y:=by
  rw [BitVec.toNat_or,BitVec.toNat_ofInt,BitVec.toNat_ofInt]
  congr 1
  ·omega
  ·omega
 have e2:x ||| y<2 ^ 63:=Nat.or_lt_two_pow (by omega) (by omega)
 show some (AV.int .i64 (IntKind.wrap .i64 _))=_
 rw [show ((BitVec.ofInt (IntKind.bits .i64) (x:Int) ||| BitVec.ofInt (IntKind.bits .i64) (y:Int)).toNat:Int)=((x ||| y:Nat):Int) from congrArg Nat.cast e1]
 rw [wrap_i64 (by omega) (by omega)]
theorem byte_at (b:List UInt8) {o:Nat} (h:o<b.length):(bytesAV b)[o]? = some (.int .u8 (b.getD o 0).toNat):=by
 unfold bytesAV
 rw [List.getElem?_map,List.getD_eq_getElem?_getD,List.getElem?_eq_getElem h]
 rfl
theorem sl2_ok (hB:σ B=some (.obj (bytesAV b))) (hl:b.length=504) {o:Nat} (ho:o+2<=504):ACalls Tryz.prog 149 [.msl B 0 504 c,.int .i64 o] σ fun r σ'=>r = .int .i64 (twoP b o)/\σ'=σ:=by
 have h1:=byte_at b (o:=o) (by omega)
 have h2:=byte_at b (o:=o+1) (by omega)
 have l1:=u8_lt' (b.getD o 0)
 have l2:=u8_lt' (b.getD (o+1) 0)
 have ht:twoP b o=(b.getD o 0).toNat+(b.getD (o+1) 0).toNat*256:=rfl
 generalize hx:(b.getD o 0).toNat=x at *
 generalize hy:(b.getD (o+1) 0).toNat=y at *
 have hkl:=kbytes_len b
 generalize hM:bytesAV b=M at *
 have i1:(o:Int)<504:=by omega
 have i2:(o:Int)+1<504:=by omega
 have en:((o:Int)+1).toNat=o+1:=by omega
 have e8:(8:Int).toNat=8:=rfl
 have bits:IntKind.bits .i64=64:=rfl
 have p8:(2:Int) ^ 8=256:=rfl
 obtain ⟨Y,hY⟩:∃ Y,Y=y*256:=⟨_,rfl⟩
 have m1:(y:Int)*256=(Y:Int):=by omega
 obtain ⟨T,hT⟩:∃ T,T=twoP b o:=⟨_,rfl⟩
 have hor:binI .or .i64 (x:Int) (Y:Int)=some (.int .i64 (T:Int)):=by
  rw [or_i64 (by omega) (by omega),hY,or_add (k:=8) (by omega),hT,ht]
 rw [<-hT]
 have wx:IntKind.wrap .i64 (x:Int)=x:=wrap_i64 (by omega) (by omega)
 have wy:IntKind.wrap .i64 (y:Int)=y:=wrap_i64 (by omega) (by omega)
 have wY:IntKind.wrap .i64 (Y:Int)=Y:=wrap_i64 (by omega) (by omega)
 refine a149 (by simp) ?_
 simp (disch:=first|assumption|omega|(simp only [List.length_append,List.length_cons,List.length_nil];omega)) only [go_sem,hB,i1,i2,en,Int.toNat_natCast,Nat.zero_add,h1,h2,e8,bits,p8,m1,hor,wx,wy,wY]
 exact retC_by (.refl _) (.refl _) ⟨rfl,rfl⟩
theorem slput_ok (hB:σ B=some (.obj (bytesAV b))) (hl:b.length=504) {o v:Nat} (ho:o+2<=504) (hv:v<65536):ACalls Tryz.prog 109 [.msl B 0 504 c,.int .i64 o,.int .i64 v] σ fun r σ'=>r = .tuple []/\σ'=σ.set B (some (.obj (bytesAV (spl b o (le16 v))))):=by
 have i1:(o:Int)<504:=by omega
 have i2:(o:Int)+1<504:=by omega
 have en:((o:Int)+1).toNat=o+1:=by omega
 have e8:(8:Int).toNat=8:=rfl
 have bits:IntKind.bits .i64=64:=rfl
 have p8:(2:Int) ^ 8=256:=rfl
 have d1:(v:Int) / 256=((v / 256:Nat):Int):=rfl
 have w1:IntKind.wrap .u8 (v:Int)=((UInt8.ofNat v).toNat:Int):=w_ofNat v
 have w2:IntKind.wrap .u8 ((v / 256:Nat):Int)=((UInt8.ofNat (v / 256)).toNat:Int):=w_ofNat (v / 256)
 have q1:=put_byte (b:=b) (o:=o) (UInt8.ofNat v)
 have q2:=put_byte (b:=spl b o [UInt8.ofNat v]) (o:=o+1) (UInt8.ofNat (v / 256))
 have q3:spl (spl b o [UInt8.ofNat v]) (o+1) [UInt8.ofNat (v / 256)]=spl b o (le16 v):=spl_two (x := [UInt8.ofNat v]) (y := [UInt8.ofNat (v / 256)]) (by simp only [List.length_cons,List.length_nil];omega)
 rw [q3] at q2
 have k1:o+1<=(bytesAV b).length:=by rw [kbytes_len];omega
 have k2:o+1+1<=(bytesAV (spl b o [UInt8.ofNat v])).length:=by rw [kbytes_len,spl_len (by simp only [List.length_cons,List.length_nil];omega)];omega
 generalize bytesAV (spl b o (le16 v))=M3 at *
 generalize bytesAV (spl b o [UInt8.ofNat v])=M2 at *
 generalize bytesAV b=M1 at *
 generalize ((UInt8.ofNat v).toNat:Int)=X at *
 generalize ((UInt8.ofNat (v / 256)).toNat:Int)=Y at *
 refine a109 (by simp) ?_
 simp (disch:=first|assumption|omega|(simp only [List.length_append,List.length_cons,List.length_nil];omega)) only [go_sem,hB,i1,i2,en,Int.toNat_natCast,Nat.zero_add,e8,bits,p8,d1,w1,w2,k1,k2,q1,q2]
 exact retC_by (.refl _) (.refl _) ⟨rfl,rfl⟩
abbrev slLn (b:List UInt8):Nat:=twoP b 0
abbrev slLo (b:List UInt8):Nat:=twoP b 2
abbrev slAt (b:List UInt8) (i:Nat):Nat:=twoP b (4+4*i)
abbrev slSz (b:List UInt8) (i:Nat):Nat:=twoP b (4+4*i+2)
theorem sllen_ok (hB:σ B=some (.obj (bytesAV b))) (hl:b.length=504):ACalls Tryz.prog 107 [.msl B 0 504 c] σ fun r σ'=>r = .int .i64 (slLn b)/\σ'=σ:=by
 refine a107 (by simp) ?_
 simp (disch:=first|assumption|omega|(simp only [List.length_append,List.length_cons,List.length_nil];omega)) only [go_sem]
 refine (sl2_ok (o:=0) hB hl (by omega)).mono ?_
 rintro v σ' ⟨rfl,rfl⟩
 simp (disch:=first|assumption|omega|(simp only [List.length_append,List.length_cons,List.length_nil];omega)) only [go_sem]
 exact retC_by (.refl _) (.refl _) ⟨rfl,rfl⟩
theorem sllow_ok (hB:σ B=some (.obj (bytesAV b))) (hl:b.length=504):ACalls Tryz.prog 125 [.msl B 0 504 c] σ fun r σ'=>r = .int .i64 (slLo b)/\σ'=σ:=by
 refine a125 (by simp) ?_
 simp (disch:=first|assumption|omega|(simp only [List.length_append,List.length_cons,List.length_nil];omega)) only [go_sem]
 refine (sl2_ok (o:=2) hB hl (by omega)).mono ?_
 rintro v σ' ⟨rfl,rfl⟩
 simp (disch:=first|assumption|omega|(simp only [List.length_append,List.length_cons,List.length_nil];omega)) only [go_sem]
 exact retC_by (.refl _) (.refl _) ⟨rfl,rfl⟩
theorem slslot_ok (hB:σ B=some (.obj (bytesAV b))) (hl:b.length=504) {i:Nat} (hi:i<125):ACalls Tryz.prog 108 [.msl B 0 504 c,.int .i64 i] σ fun r σ'=>r = .tuple [.int .i64 (slAt b i),.int .i64 (slSz b i)]/\σ'=σ:=by
 have e1:(4:Int)+4*(i:Int)=((4+4*i:Nat):Int):=by omega
 have e2:((4+4*i:Nat):Int)+2=((4+4*i+2:Nat):Int):=by omega
 have h1:=sl2_ok (c:=c) (o:=4+4*i) hB hl (by omega)
 have h2:=sl2_ok (c:=c) (o:=4+4*i+2) hB hl (by omega)
 generalize hp:4+4*i=p at *
 generalize hq:p+2=q at *
 refine a108 (by simp) ?_
 simp (disch:=first|assumption|omega|(simp only [List.length_append,List.length_cons,List.length_nil];omega)) only [go_sem,e1,e2]
 refine h1.mono ?_
 rintro v σ' ⟨rfl,rfl⟩
 simp (disch:=first|assumption|omega|(simp only [List.length_append,List.length_cons,List.length_nil];omega)) only [go_sem,e1,e2]
 refine h2.mono ?_
 rintro v σ' ⟨rfl,rfl⟩
 simp (disch:=first|assumption|omega|(simp only [List.length_append,List.length_cons,List.length_nil];omega)) only [go_sem]
 refine retC_by (.refl _) (.refl _) ⟨?_,rfl⟩
 rw [<-hq,← hp]
 rfl
def layS (b:List UInt8) (i o n:Nat):List UInt8:=spl (spl b (4+4*i) (le16 o)) (4+4*i+2) (le16 n)
theorem layS_len {i o n:Nat} (hl:b.length=504) (hi:i<125):(layS b i o n).length=504:=by
 unfold layS
 rw [spl_len,spl_len (by rw [le16_len];omega),hl]
 rw [spl_len (by rw [le16_len];omega),le16_len];omega
theorem sllay_ok (hB:σ B=some (.obj (bytesAV b))) (hl:b.length=504) {i o n:Nat} (hi:i<125) (ho:o<65536) (hn:n<65536):ACalls Tryz.prog 106 [.msl B 0 504 c,.int .i64 i,.int .i64 o,.int .i64 n] σ fun r σ'=>r = .tuple []/\σ'=σ.set B (some (.obj (bytesAV (layS b i o n)))):=by
 have e1:(4:Int)+4*(i:Int)=((4+4*i:Nat):Int):=by omega
 have e2:((4+4*i:Nat):Int)+2=((4+4*i+2:Nat):Int):=by omega
 have hl2:(spl b (4+4*i) (le16 o)).length=504:=by rw [spl_len (by rw [le16_len];omega),hl]
 have h1:=slput_ok (c:=c) (o:=4+4*i) (v:=o) hB hl (by omega) ho
 have h2:=slput_ok (c:=c) (σ:=σ.set B (some (.obj (bytesAV (spl b (4+4*i) (le16 o)))))) (B:=B) (o:=4+4*i+2) (v:=n) (ASt.set_same _ _ _) hl2 (by omega) hn
 rw [ASt.set_set] at h2
 unfold layS
 generalize hp:4+4*i=p at *
 generalize hq:p+2=q at *
 refine a106 (by simp) ?_
 simp (disch:=first|assumption|omega|(simp only [List.length_append,List.length_cons,List.length_nil];omega)) only [go_sem,e1,e2]
 refine h1.mono ?_
 rintro v σ' ⟨rfl,rfl⟩
 simp (disch:=first|assumption|omega|(simp only [List.length_append,List.length_cons,List.length_nil];omega)) only [go_sem,e1,e2]
 refine h2.mono ?_
 rintro v σ' ⟨rfl,rfl⟩
 simp (disch:=first|assumption|omega|(simp only [List.length_append,List.length_cons,List.length_nil];omega)) only [go_sem]
 exact retC_by (.refl _) (.refl _) ⟨rfl,rfl⟩
end
end Go.A
namespace Go.A
open Go.Proofs
abbrev Rcs:=List (Option (List UInt8))
def szR:Option (List UInt8)->Nat
 | none=>0
 | some s=>s.length
def usedR:Rcs->Nat
 | []=>0
 | x::R=>szR x+usedR R
theorem usedR_app (R S:Rcs):usedR (R++S)=usedR R+usedR S:=by
 induction R with
 | nil=>simp [usedR]
 | cons x R ih=>simp only [List.cons_append,usedR,ih];omega
theorem usedR_at {R:Rcs} {i:Nat} {x:Option (List UInt8)} (h:R[i]? = some x):usedR (R.take (i+1))=usedR (R.take i)+szR x:=by
 rw [List.take_add_one,h,usedR_app]
 simp [usedR]
theorem usedR_take (R:Rcs) (i:Nat):usedR (R.take i)<=usedR R:=by
 have:=usedR_app (R.take i) (R.drop i)
 rw [List.take_append_drop] at this
 omega
structure SW (b:List UInt8) (R:Rcs):Prop where
 hl:b.length=504
 n:slLn b=R.length
 lo:4+4*R.length<=slLo b
 hi:slLo b<=504
 dead:∀ i,R[i]? = some none->slAt b i=0/\slSz b i=0
 live:∀ i s,R[i]? = some (some s)->slLo b<=slAt b i/\slAt b i+s.length<=504/\slSz b i=s.length/\s ≠ []/\bat b (slAt b i) s.length=s
 dis:∀ i j s t,i≠j->R[i]? = some (some s)->R[j]? = some (some t)->slAt b i+s.length<=slAt b j\/slAt b j+t.length<=slAt b i
structure SP (b:List UInt8) (R:Rcs):Prop extends SW b R where
 last:∀ i,i+1=R.length->R[i]? ≠ some none
 emp:R = []->slLo b=504
section
variable {b:List UInt8} {R:Rcs} {i j o n:Nat} {s:List UInt8}
theorem SW.few (h:SW b R):R.length<=125:=by have:=h.lo;have:=h.hi;omega
theorem layS_at (hl:b.length=504) (hi:i<125) (ho:o<65536) (hn:n<65536):slAt (layS b i o n) i=o/\slSz (layS b i o n) i=n:=by
 have e1:(spl b (4+4*i) (le16 o)).length=504:=by rw [spl_len (by rw [le16_len];omega),hl]
 unfold layS
 exact ⟨by rw [slAt,twoP_else (by rw [le16_len];omega) (by omega)];exact twoP_same (by omega) ho,twoP_same (by omega) hn⟩
theorem layS_two (hl:b.length=504) (hi:i<125) {q:Nat} (hq:q+2<=4+4*i\/4+4*i+4<=q):twoP (layS b i o n) q=twoP b q:=by
 have e1:(spl b (4+4*i) (le16 o)).length=504:=by rw [spl_len (by rw [le16_len];omega),hl]
 unfold layS
 rw [twoP_else (by rw [le16_len];omega) (by rw [le16_len];omega),twoP_else (by rw [le16_len];omega) (by rw [le16_len];omega)]
theorem layS_bat (hl:b.length=504) (hi:i<125) {q m:Nat} (hq:4+4*i+4<=q):bat (layS b i o n) q m=bat b q m:=by
 have e1:(spl b (4+4*i) (le16 o)).length=504:=by rw [spl_len (by rw [le16_len];omega),hl]
 unfold layS
 rw [bat_else (by rw [le16_len];omega) (by rw [le16_len];omega),bat_else (by rw [le16_len];omega) (by rw [le16_len];omega)]
def storeB (b:List UInt8) (i:Nat) (s:List UInt8):List UInt8:=spl (layS (spl b (slLo b-s.length) s) i (slLo b-s.length) s.length) 2 (le16 (slLo b-s.length))
theorem SW.store (h:SW b R) (hR:R[i]? = some none) (hs:s ≠ []) (hroom:4+4*R.length+s.length<=slLo b):SW (storeB b i s) (R.set i (some s))/\slLo (storeB b i s)=slLo b-s.length:=by
 have hl:=h.hl
 have hhi:=h.hi
 have hiR:=(List.getElem?_eq_some_iff.1 hR).1
 have hsl:0<s.length:=List.length_pos_iff.2 hs
 have hi:i<125:=by omega
 obtain ⟨p,hp⟩:∃ p,p=slLo b-s.length:=⟨_,rfl⟩
 have e0:(spl b p s).length=504:=by rw [spl_len (by omega),hl]
 have e1:(layS (spl b p s) i p s.length).length=504:=layS_len e0 hi
 have hb:storeB b i s=spl (layS (spl b p s) i p s.length) 2 (le16 p):=by rw [hp];rfl
 have t2:∀ q,(q+2<=2\/4<=q)->twoP (storeB b i s) q=twoP (layS (spl b p s) i p s.length) q:=fun q hq=>by
  rw [hb,twoP_else (by rw [le16_len];omega) (by rw [le16_len];omega)]
 have low':slLo (storeB b i s)=p:=by
  rw [hb];exact twoP_same (by omega) (by omega)
 have t1:∀ q,(q+2<=4+4*i\/4+4*i+4<=q)->q+2<=p->(q+2<=2\/4<=q)->twoP (storeB b i s) q=twoP b q:=fun q h1 h2 h3=>by
  rw [t2 q h3,layS_two e0 hi h1,twoP_else (by omega) (by omega)]
 have hat:slAt (storeB b i s) i=p/\slSz (storeB b i s) i=s.length:=by
  obtain ⟨g1,g2⟩:=layS_at (b:=spl b p s) (o:=p) (n:=s.length) e0 hi (by omega) (by omega)
  exact ⟨by rw [slAt,t2 _ (by omega)];exact g1,by rw [slSz,t2 _ (by omega)];exact g2⟩
 have hoth:∀ j,j≠i->j<R.length->slAt (storeB b i s) j=slAt b j/\slSz (storeB b i s) j=slSz b j:=fun j hj hjl=>by
  exact ⟨t1 _ (by omega) (by omega) (by omega),t1 _ (by omega) (by omega) (by omega)⟩
 have hbat:∀ q m,4+4*R.length<=q->bat (storeB b i s) q m=bat (spl b p s) q m:=fun q m hq=>by
  rw [hb,bat_else (by rw [le16_len];omega) (by rw [le16_len];omega),layS_bat e0 hi (by omega)]
 have hget:∀ j x,(R.set i (some s))[j]? = some x->(j=i/\x=some s)\/(j≠i/\R[j]? = some x/\j<R.length):=fun j x hj=>by
  by_cases he:j=i
  ·subst he
   rw [List.getElem?_set_self hiR] at hj
   exact .inl ⟨rfl,(Option.some.inj hj).symm⟩
  ·rw [List.getElem?_set_ne (Ne.symm he)] at hj
   exact .inr ⟨he,hj,(List.getElem?_eq_some_iff.1 hj).1⟩
 refine ⟨⟨by rw [hb,spl_len (by rw [le16_len];omega),e1],?_,?_,?_,fun j hj=>?_,fun j t hj=>?_,fun j k t u hjk hj hk=>?_⟩,by rw [low',hp]⟩
 ·rw [List.length_set,← h.n]
  exact t1 0 (by omega) (by omega) (by omega)
 ·rw [List.length_set,low'];omega
 ·rw [low'];omega
 ·rcases hget j _ hj with ⟨_,h2⟩|⟨h1,h2,h3⟩
  ·cases h2
  ·obtain ⟨g1,g2⟩:=hoth j h1 h3
   rw [g1,g2];exact h.dead j h2
 ·rcases hget j _ hj with ⟨rfl,h2⟩|⟨h1,h2,h3⟩
  ·injection h2 with h2;subst h2
   rw [hat.1,hat.2,low']
   refine ⟨Nat.le_refl _,by omega,rfl,hs,?_⟩
   rw [hbat _ _ (by omega)]
   exact bat_same (by omega)
  ·obtain ⟨g1,g2⟩:=hoth j h1 h3
   obtain ⟨k1,k2,k3,k4,k5⟩:=h.live j t h2
   rw [g1,g2,low']
   refine ⟨by omega,k2,k3,k4,?_⟩
   rw [hbat _ _ (by omega),bat_else (by omega) (by omega)]
   exact k5
 ·rcases hget j _ hj with ⟨rfl,h2⟩|⟨h1,h2,h3⟩
  ·injection h2 with h2;subst h2
   rcases hget k _ hk with ⟨rfl,h5⟩|⟨h4,h5,h6⟩
   ·exact absurd rfl hjk
   ·obtain ⟨g1,g2⟩:=hoth k h4 h6
    obtain ⟨k1,_⟩:=h.live k u h5
    rw [hat.1,g1];exact .inl (by omega)
  ·obtain ⟨g1,g2⟩:=hoth j h1 h3
   rcases hget k _ hk with ⟨rfl,h5⟩|⟨h4,h5,h6⟩
   ·injection h5 with h5;subst h5
    obtain ⟨k1,_⟩:=h.live j t h2
    rw [hat.1,g1];exact .inr (by omega)
   ·obtain ⟨g3,g4⟩:=hoth k h4 h6
    rw [g1,g3];exact h.dis j k t u hjk h2 h5
theorem SW.more (h:SW b R) (hroom:4+4*(R.length+1)<=slLo b):SW (layS (spl b 0 (le16 (R.length+1))) R.length 0 0) (R ++ [none])/\slLo (layS (spl b 0 (le16 (R.length+1))) R.length 0 0)=slLo b:=by
 have hl:=h.hl
 have hhi:=h.hi
 obtain ⟨k,hk⟩:∃ k,k=R.length:=⟨_,rfl⟩
 rw [<-hk] at hroom ⊢
 have e0:(spl b 0 (le16 (k+1))).length=504:=by rw [spl_len (by rw [le16_len];omega),hl]
 have t1:∀ q,2<=q->(q+2<=4+4*k\/4+4*k+4<=q)->twoP (layS (spl b 0 (le16 (k+1))) k 0 0) q=twoP b q:=fun q h1 h2=>by
  rw [layS_two e0 (by omega) h2,twoP_else (by rw [le16_len];omega) (by rw [le16_len];omega)]
 obtain ⟨a1,a2⟩:=layS_at (b:=spl b 0 (le16 (k+1))) (i:=k) (o:=0) (n:=0) e0 (by omega) (by omega) (by omega)
 have low':slLo (layS (spl b 0 (le16 (k+1))) k 0 0)=slLo b:=t1 2 (by omega) (by omega)
 have hoth:∀ j,j<k->slAt (layS (spl b 0 (le16 (k+1))) k 0 0) j=slAt b j/\slSz (layS (spl b 0 (le16 (k+1))) k 0 0) j=slSz b j:=fun j hj=>
  ⟨t1 _ (by omega) (by omega),t1 _ (by omega) (by omega)⟩
 have hbat:∀ q m,4+4*(k+1)<=q->bat (layS (spl b 0 (le16 (k+1))) k 0 0) q m=bat b q m:=fun q m hq=>by
  rw [layS_bat e0 (by omega) (by omega),bat_else (by rw [le16_len];omega) (by rw [le16_len];omega)]
 have hget:∀ j x,(R ++ [none])[j]? = some x->(j=k/\x=none)\/(j<k/\R[j]? = some x):=fun j x hj=>by
  by_cases he:j<k
  ·rw [List.getElem?_append_left (by omega)] at hj
   exact .inr ⟨he,hj⟩
  ·have hlt:=(List.getElem?_eq_some_iff.1 hj).1
   rw [List.length_append] at hlt
   obtain rfl:j=k:=by have:([none]:Rcs).length=1:=rfl;omega
   rw [List.getElem?_append_right (by omega),← hk,Nat.sub_self] at hj
   exact .inl ⟨rfl,(Option.some.inj hj).symm⟩
 have hll:(R ++ [none]).length=k+1:=by rw [List.length_append,← hk];rfl
 have hlen':(layS (spl b 0 (le16 (k+1))) k 0 0).length=504:=layS_len e0 (by omega)
 have hn':slLn (layS (spl b 0 (le16 (k+1))) k 0 0)=k+1:=by
  rw [slLn,layS_two e0 (by omega) (by omega)]
  exact twoP_same (by omega) (by omega)
 generalize layS (spl b 0 (le16 (k+1))) k 0 0=b' at *
 refine ⟨⟨hlen',by rw [hll];exact hn',by rw [hll,low'];omega,by rw [low'];exact hhi,fun j hj=>?_,fun j t hj=>?_,fun j m t u hjm hj hm=>?_⟩,low'⟩
 ·rcases hget j _ hj with ⟨rfl,_⟩|⟨h1,h2⟩
  ·exact ⟨a1,a2⟩
  ·obtain ⟨g1,g2⟩:=hoth j h1
   rw [g1,g2];exact h.dead j h2
 ·rcases hget j _ hj with ⟨_,h2⟩|⟨h1,h2⟩
  ·cases h2
  ·obtain ⟨g1,g2⟩:=hoth j h1
   obtain ⟨k1,k2,k3,k4,k5⟩:=h.live j t h2
   rw [g1,g2,low']
   exact ⟨k1,k2,k3,k4,by rw [hbat _ _ (by omega)];exact k5⟩
 ·rcases hget j _ hj with ⟨_,h2⟩|⟨h1,h2⟩
  ·cases h2
  ·rcases hget m _ hm with ⟨_,h4⟩|⟨h3,h4⟩
   ·cases h4
   ·rw [(hoth j h1).1,(hoth m h3).1]
    exact h.dis j m t u hjm h2 h4
theorem SW.gone (h:SW b R) {x:Option (List UInt8)} (hR:R[i]? = some x):SW (layS b i 0 0) (R.set i none)/\slLo (layS b i 0 0)=slLo b:=by
 have hl:=h.hl
 have hhi:=h.hi
 have hlo:=h.lo
 have hiR:=(List.getElem?_eq_some_iff.1 hR).1
 obtain ⟨a1,a2⟩:=layS_at (b:=b) (i:=i) (o:=0) (n:=0) hl (by omega) (by omega) (by omega)
 have low':slLo (layS b i 0 0)=slLo b:=layS_two hl (by omega) (by omega)
 have hoth:∀ j,j≠i->slAt (layS b i 0 0) j=slAt b j/\slSz (layS b i 0 0) j=slSz b j:=fun j hj=>
  ⟨layS_two hl (by omega) (by omega),layS_two hl (by omega) (by omega)⟩
 have hbat:∀ q m,4+4*R.length<=q->bat (layS b i 0 0) q m=bat b q m:=fun q m hq=>layS_bat hl (by omega) (by omega)
 have hget:∀ j x,(R.set i none)[j]? = some x->(j=i/\x=none)\/(j≠i/\R[j]? = some x):=fun j x hj=>by
  by_cases he:j=i
  ·subst he
   rw [List.getElem?_set_self hiR] at hj
   exact .inl ⟨rfl,(Option.some.inj hj).symm⟩
  ·rw [List.getElem?_set_ne (Ne.symm he)] at hj
   exact .inr ⟨he,hj⟩
 refine ⟨⟨layS_len hl (by omega),?_,?_,?_,fun j hj=>?_,fun j t hj=>?_,fun j m t u hjm hj hm=>?_⟩,low'⟩
 ·rw [List.length_set,← h.n];exact layS_two hl (by omega) (by omega)
 ·rw [List.length_set,low'];exact hlo
 ·rw [low'];exact hhi
 ·rcases hget j _ hj with ⟨rfl,_⟩|⟨h1,h2⟩
  ·exact ⟨a1,a2⟩
  ·obtain ⟨g1,g2⟩:=hoth j h1
   rw [g1,g2];exact h.dead j h2
 ·rcases hget j _ hj with ⟨_,h2⟩|⟨h1,h2⟩
  ·cases h2
  ·obtain ⟨g1,g2⟩:=hoth j h1
   obtain ⟨k1,k2,k3,k4,k5⟩:=h.live j t h2
   rw [g1,g2,low']
   exact ⟨k1,k2,k3,k4,by rw [hbat _ _ (by omega)];exact k5⟩
 ·rcases hget j _ hj with ⟨_,h2⟩|⟨h1,h2⟩
  ·cases h2
  ·rcases hget m _ hm with ⟨_,h4⟩|⟨h3,h4⟩
   ·cases h4
   ·rw [(hoth j h1).1,(hoth m h3).1]
    exact h.dis j m t u hjm h2 h4
theorem SW.cut (h:SW b R) {k:Nat} (hk:k<=R.length):SW (spl b 0 (le16 k)) (R.take k)/\slLo (spl b 0 (le16 k))=slLo b:=by
 have hl:=h.hl
 have hhi:=h.hi
 have hlo:=h.lo
 have t1:∀ q,2<=q->twoP (spl b 0 (le16 k)) q=twoP b q:=fun q hq=>twoP_else (by rw [le16_len];omega) (by rw [le16_len];omega)
 have low':slLo (spl b 0 (le16 k))=slLo b:=t1 2 (by omega)
 have hat:∀ j,slAt (spl b 0 (le16 k)) j=slAt b j/\slSz (spl b 0 (le16 k)) j=slSz b j:=fun j=>⟨t1 _ (by omega),t1 _ (by omega)⟩
 have hbat:∀ q m,2<=q->bat (spl b 0 (le16 k)) q m=bat b q m:=fun q m hq=>bat_else (by rw [le16_len];omega) (by rw [le16_len];omega)
 have hget:∀ j x,(R.take k)[j]? = some x->R[j]? = some x:=fun j x hj=>by
  rw [List.getElem?_take] at hj
  split at hj
  ·exact hj
  ·cases hj
 have hll:(R.take k).length=k:=by rw [List.length_take];omega
 refine ⟨⟨by rw [spl_len (by rw [le16_len];omega),hl],by rw [hll];exact twoP_same (by omega) (by omega),by rw [hll,low'];omega,by rw [low'];exact hhi,fun j hj=>?_,fun j t hj=>?_,fun j m t u hjm hj hm=>?_⟩,low'⟩
 ·rw [(hat j).1,(hat j).2];exact h.dead j (hget j _ hj)
 ·obtain ⟨k1,k2,k3,k4,k5⟩:=h.live j t (hget j _ hj)
  rw [(hat j).1,(hat j).2,low']
  exact ⟨k1,k2,k3,k4,by rw [hbat _ _ (by omega)];exact k5⟩
 ·rw [(hat j).1,(hat m).1]
  exact h.dis j m t u hjm (hget j _ hj) (hget m _ hm)
theorem SW.bare (hl:b.length=504) (h0:slLn b=0):SP (spl b 2 (le16 504)) []:=by
 have low':slLo (spl b 2 (le16 504))=504:=twoP_same (by omega) (by omega)
 have key:∀ (j:Nat) (x:Option (List UInt8)),([]:Rcs)[j]? = some x->False:=fun j x h=>by simp at h
 refine ⟨⟨by rw [spl_len (by rw [le16_len];omega),hl],?_,by rw [low'];decide,by rw [low'];exact Nat.le_refl _,fun j hj=>(key j _ hj).elim,fun j t hj=>(key j _ hj).elim,fun j m t u _ hj _=>(key j _ hj).elim⟩,fun j hj=>(by cases hj),fun _=>low'⟩
 rw [slLn,twoP_else (by rw [le16_len];omega) (by omega)]
 exact h0
theorem SW.packed (hl:b.length=504) (hn:slLn b=R.length) (hlow:slLo b=504-usedR R) (hu:4+4*R.length+usedR R<=504)
  (hd:∀ j,R[j]? = some none->slAt b j=0/\slSz b j=0) (hs:∀ j s,R[j]? = some (some s)->s ≠ []/\slAt b j=504-usedR (R.take (j+1))/\slSz b j=s.length/\bat b (504-usedR (R.take (j+1))) s.length=s):SW b R:=by
 have hlt:∀ (j:Nat) s,R[j]? = some (some s)->usedR (R.take (j+1))=usedR (R.take j)+s.length:=fun j s hj=>usedR_at hj
 have hle:∀ (j m:Nat),j<=m->usedR (R.take j)<=usedR (R.take m):=fun j m hjm=>by
  have:=usedR_take (R.take m) j
  rwa [List.take_take,Nat.min_eq_left hjm] at this
 have hla:=fun j=>usedR_take R j
 refine ⟨hl,hn,by rw [hlow];omega,by rw [hlow];omega,hd,fun j s hj=>?_,fun j m s t hjm hj hm=>?_⟩
 ·obtain ⟨h0,h1,h2,h3⟩:=hs j s hj
  have:=hlt j s hj
  have:=hla (j+1)
  rw [h1,hlow]
  exact ⟨by omega,by omega,h2,h0,h3⟩
 ·obtain ⟨h0,h1,h2,h3⟩:=hs j s hj
  obtain ⟨g0,g1,g2,g3⟩:=hs m t hm
  have e1:=hlt j s hj
  have e2:=hlt m t hm
  have l1:=hla (j+1)
  have l2:=hla (m+1)
  rw [h1,g1]
  rcases Nat.lt_or_gt_of_ne hjm with h|h
  ·have:=hle (j+1) m (by omega)
   exact .inr (by omega)
  ·have:=hle (m+1) j (by omega)
   exact .inl (by omega)
structure PackI (b0:List UInt8) (R:Rcs) (k:Nat) (b:List UInt8):Prop where
 hl:b.length=504
 n:slLn b=R.length
 dead:∀ j,j<k->R[j]? = some none->slAt b j=0/\slSz b j=0
 done:∀ j s,j<k->R[j]? = some (some s)->s ≠ []/\slAt b j=504-usedR (R.take (j+1))/\slSz b j=s.length/\bat b (504-usedR (R.take (j+1))) s.length=s
 rest:∀ j,k<=j->j<R.length->slAt b j=slAt b0 j/\slSz b j=slSz b0 j
theorem PackI.start (h:SW b R):PackI b R 0 b:=⟨h.hl,h.n,fun j hj=>absurd hj (Nat.not_lt_zero _),fun j s hj=>absurd hj (Nat.not_lt_zero _),fun j _ _=>⟨rfl,rfl⟩⟩
theorem PackI.skip {b0:List UInt8} {k:Nat} (h:PackI b0 R k b) (h0:SW b0 R) (hk:R[k]? = some none):PackI b0 R (k+1) b:=by
 have hkl:=(List.getElem?_eq_some_iff.1 hk).1
 refine ⟨h.hl,h.n,fun j hj hR=>?_,fun j s hj hR=>?_,fun j hj hl=>h.rest j (by omega) hl⟩
 ·by_cases he:j=k
  ·subst he
   obtain ⟨g1,g2⟩:=h.rest j (Nat.le_refl _) hkl
   rw [g1,g2];exact h0.dead j hk
  ·exact h.dead j (by omega) hR
 ·by_cases he:j=k
  ·subst he
   rw [hk] at hR;cases hR
  ·exact h.done j s (by omega) hR
theorem PackI.step {b0:List UInt8} {k:Nat} (h:PackI b0 R k b) (h0:SW b0 R) (hu:4+4*R.length+usedR R<=504) (hk:R[k]? = some (some s)):PackI b0 R (k+1) (layS (spl b (504-usedR (R.take (k+1))) s) k (504-usedR (R.take (k+1))) s.length):=by
 have hl:=h.hl
 have hkl:=(List.getElem?_eq_some_iff.1 hk).1
 obtain ⟨q1,q2,q3,q4,q5⟩:=h0.live k s hk
 have hsl:0<s.length:=List.length_pos_iff.2 q4
 have e1:usedR (R.take (k+1))=usedR (R.take k)+s.length:=usedR_at hk
 have l1:=usedR_take R (k+1)
 have hle:∀ (j m:Nat),j<=m->usedR (R.take j)<=usedR (R.take m):=fun j m hjm=>by
  have:=usedR_take (R.take m) j
  rwa [List.take_take,Nat.min_eq_left hjm] at this
 obtain ⟨e,he⟩:∃ e,e=504-usedR (R.take (k+1)):=⟨_,rfl⟩
 rw [<-he]
 have e0:(spl b e s).length=504:=by rw [spl_len (by omega),hl]
 obtain ⟨a1,a2⟩:=layS_at (b:=spl b e s) (i:=k) (o:=e) (n:=s.length) e0 (by omega) (by omega) (by omega)
 have t1:∀ q,q+2<=e->(q+2<=4+4*k\/4+4*k+4<=q)->twoP (layS (spl b e s) k e s.length) q=twoP b q:=fun q h1 h2=>by
  rw [layS_two e0 (by omega) h2,twoP_else (by omega) (by omega)]
 have hoth:∀ j,j≠k->j<R.length->slAt (layS (spl b e s) k e s.length) j=slAt b j/\slSz (layS (spl b e s) k e s.length) j=slSz b j:=fun j hj hjl=>
  ⟨t1 _ (by omega) (by omega),t1 _ (by omega) (by omega)⟩
 have hbat:∀ q m,4+4*R.length<=q->bat (layS (spl b e s) k e s.length) q m=bat (spl b e s) q m:=fun q m hq=>layS_bat e0 (by omega) (by omega)
 have hlen':(layS (spl b e s) k e s.length).length=504:=layS_len e0 (by omega)
 have hn':slLn (layS (spl b e s) k e s.length)=R.length:=by rw [<-h.n];exact t1 0 (by omega) (by omega)
 generalize layS (spl b e s) k e s.length=b' at *
 refine ⟨hlen',hn',fun j hj hR=>?_,fun j t hj hR=>?_,fun j hj hjl=>?_⟩
 ·have hjk:j≠k:=fun e=>by subst e;rw [hk] at hR;cases hR
  obtain ⟨g1,g2⟩:=hoth j hjk (by omega)
  rw [g1,g2];exact h.dead j (by omega) hR
 ·by_cases hjk:j=k
  ·subst hjk
   rw [hk] at hR
   injection hR with hR;injection hR with hR;subst hR
   refine ⟨q4,by rw [a1,he],a2,?_⟩
   rw [<-he,hbat _ _ (by omega)]
   exact bat_same (by omega)
  ·obtain ⟨g1,g2⟩:=hoth j hjk (by omega)
   obtain ⟨k1,k2,k3,k4⟩:=h.done j t (by omega) hR
   have e2:usedR (R.take (j+1))=usedR (R.take j)+t.length:=usedR_at hR
   have:=hle (j+1) k (by omega)
   rw [g1,g2]
   refine ⟨k1,k2,k3,?_⟩
   rw [hbat _ _ (by omega),bat_else (by omega) (by omega)]
   exact k4
 ·obtain ⟨g1,g2⟩:=hoth j (by omega) hjl
  rw [g1,g2]
  exact h.rest j (by omega) hjl
def packEnd (b:List UInt8) (n e:Nat):List UInt8:=spl (spl b 2 (le16 e)) (4+4*n) (List.replicate (e-(4+4*n)) 0)
theorem PackI.fin {b0:List UInt8} (h:PackI b0 R R.length b) (hu:4+4*R.length+usedR R<=504):SW (packEnd b R.length (504-usedR R)) R/\slLo (packEnd b R.length (504-usedR R))=504-usedR R:=by
 have hl:=h.hl
 have hla:=fun j=>usedR_take R j
 obtain ⟨e,he⟩:∃ e,e=504-usedR R:=⟨_,rfl⟩
 have e0:(spl b 2 (le16 e)).length=504:=by rw [spl_len (by rw [le16_len];omega),hl]
 have hzl:(List.replicate (e-(4+4*R.length)) (0:UInt8)).length=e-(4+4*R.length):=List.length_replicate
 rw [<-he]
 have t0:∀ q,q+2<=4+4*R.length->twoP (packEnd b R.length e) q=twoP (spl b 2 (le16 e)) q:=fun q hq=>twoP_else (by omega) (by omega)
 have t1:∀ q,q+2<=4+4*R.length->(q+2<=2\/4<=q)->twoP (packEnd b R.length e) q=twoP b q:=fun q h1 h2=>by
  rw [t0 q h1,twoP_else (by rw [le16_len];omega) (by rw [le16_len];omega)]
 have hat:∀ j,j<R.length->slAt (packEnd b R.length e) j=slAt b j/\slSz (packEnd b R.length e) j=slSz b j:=fun j hj=>⟨t1 _ (by omega) (by omega),t1 _ (by omega) (by omega)⟩
 have low':slLo (packEnd b R.length e)=e:=by rw [slLo,t0 2 (by omega)];exact twoP_same (by omega) (by omega)
 have hbat:∀ q m,e<=q->bat (packEnd b R.length e) q m=bat b q m:=fun q m hq=>by
  unfold packEnd
  rw [bat_else (by omega) (by omega),bat_else (by rw [le16_len];omega) (by rw [le16_len];omega)]
 refine ⟨SW.packed (by unfold packEnd;rw [spl_len (by omega),e0]) ((t1 0 (by omega) (by omega)).trans h.n) (by rw [low',he]) hu (fun j hj=>?_) (fun j s hj=>?_),low'⟩
 ·have hjl:=(List.getElem?_eq_some_iff.1 hj).1
  rw [(hat j hjl).1,(hat j hjl).2];exact h.dead j hjl hj
 ·have hjl:=(List.getElem?_eq_some_iff.1 hj).1
  obtain ⟨g1,g2,g3,g4⟩:=h.done j s hjl hj
  have:=hla (j+1)
  rw [(hat j hjl).1,(hat j hjl).2]
  exact ⟨g1,g2,g3,by rw [hbat _ _ (by omega)];exact g4⟩
end
end Go.A
namespace Go.A
open Go.Proofs
/-! 49: tabular/slot.Live -/
def c49_17:ACode := .seq (.ops [ oq 10 (.bin .lss (.t 9) (.t 8))]) (.seq (.cond (.t 10) .skip (.exit 0)) (.seq (.block 1 (.seq (.ops [ oq 11 (.mv (.t 9)),oq 4 (.mv (.t 11))]) (.seq (.ops [ oq 13 (.mv (.t 0)),oq 14 (.mv (.t 4)),oe 15 (.call 108 [(.t 13),(.t 14)]),oq 12 (.mv (.t 15)),oq 16 (.ext 0 (.t 12)),oq 17 (.ext 1 (.t 12)),oq 5 (.mv (.t 16)),oq 6 (.mv (.t 17))]) (.seq (.ops [ oq 18 (.mv (.t 5)),oq 19 (.bin .gtr (.t 18) (.v (.int .i64 0)))]) (.cond (.t 19) (.ops [ oq 20 (.mv (.t 3)),oq 21 (.bin .add (.t 20) (.v (.int .i64 1))),oq 3 (.mv (.t 21))]) .skip))))) (.ops [ oq 22 (.bin .add (.t 9) (.v (.int .i64 1))),oq 9 (.mv (.t 22))])))
def c49_25:ACode := .seq (.ops [ oq 2 (.mv (.v (.int .i64 0)))]) (.seq (.ops [ oq 3 (.mv (.v (.int .i64 0)))]) (.seq (.seq (.ops [ oq 7 (.mv (.t 0)),oe 8 (.call 107 [(.t 7)]),oq 9 (.mv (.v (.int .i64 0)))]) (.block 0 (.loop c49_17))) (.seq (.ops [ oq 23 (.mv (.t 3)),oq 2 (.mv (.t 23))]) .ret)))
@[go_sem] def c49_17_wp:=wp_of c49_17.eq_1
@[go_sem] def c49_25_wp:=wp_of c49_25.eq_1
def c49:AFn:=⟨24,[.t 2],c49_25⟩
theorem c49_ok:compF Tryz.prog Tryz.f49=some c49:=by kernel_rfl
theorem a49 {args:List AV} {σ:ASt} {R:AV->ASt->Prop} (hl:args.length<=24) (h:c49_25.wp Tryz.prog (RetQ [.t 2] R) (init args) σ):ACalls Tryz.prog 49 args σ R:=acalls_of Tryz.func49 c49_ok hl h
/-! 97: tabular/slot.Get -/
def c97_11:ACode := .seq (.ops [ oq 4 (.mv (.v (.str []))),oq 5 (.mv (.v (.bool false)))]) (.seq (.seq (.ops [ oq 8 (.mv (.t 0)),oq 9 (.mv (.t 1)),oe 10 (.call 105 [(.t 8),(.t 9)]),oq 11 (.un .not (.t 10))]) (.cond (.t 11) (.seq (.ops [ oq 4 (.mv (.v (.str []))),oq 5 (.mv (.v (.bool false)))]) .ret) .skip)) (.seq (.ops [ oq 13 (.mv (.t 0)),oq 14 (.mv (.t 1)),oe 15 (.call 108 [(.t 13),(.t 14)]),oq 12 (.mv (.t 15)),oq 16 (.ext 0 (.t 12)),oq 17 (.ext 1 (.t 12)),oq 6 (.mv (.t 16)),oq 7 (.mv (.t 17))]) (.seq (.ops [ oq 18 (.mv (.t 0)),oq 19 (.mv (.t 6)),oq 20 (.mv (.t 6)),oq 21 (.mv (.t 7)),oq 22 (.bin .add (.t 20) (.t 21)),oq 23 (.sls (false,1) (.t 18) (.t 19) (.t 22)),oq 24 (.b2s (.t 23)),oq 4 (.mv (.t 24)),oq 5 (.mv (.v (.bool true)))]) .ret)))
@[go_sem] def c97_11_wp:=wp_of c97_11.eq_1
def c97:AFn:=⟨25,[.t 4,.t 5],c97_11⟩
theorem c97_ok:compF Tryz.prog Tryz.f97=some c97:=by kernel_rfl
theorem a97 {args:List AV} {σ:ASt} {R:AV->ASt->Prop} (hl:args.length<=25) (h:c97_11.wp Tryz.prog (RetQ [.t 4,.t 5] R) (init args) σ):ACalls Tryz.prog 97 args σ R:=acalls_of Tryz.func97 c97_ok hl h
/-! 105: tabular/slot.has -/
def c105_11:ACode := .seq (.ops [ oq 4 (.mv (.v (.bool false)))]) (.seq (.seq (.ops [ oq 7 (.mv (.t 1)),oq 8 (.bin .lss (.t 7) (.v (.int .i64 0))),oq 9 (.mv (.t 8)),⟨some 10,some (9,false),.q (.mv (.t 1)),[]⟩,⟨some 11,some (9,false),.q (.mv (.t 0)),[]⟩,⟨some 12,some (9,false),.e (.call 107 [(.t 11)]),[]⟩,⟨some 13,some (9,false),.q (.bin .geq (.t 10) (.t 12)),[]⟩,oq 14 (.pick (.t 9) (.v (.bool true)) (.t 13))]) (.cond (.t 14) (.seq (.ops [ oq 4 (.mv (.v (.bool false)))]) .ret) .skip)) (.seq (.ops [ oq 16 (.mv (.t 0)),oq 17 (.mv (.t 1)),oe 18 (.call 108 [(.t 16),(.t 17)]),oq 15 (.mv (.t 18)),oq 19 (.ext 0 (.t 15)),oq 20 (.ext 1 (.t 15)),oq 5 (.mv (.t 19)),oq 6 (.mv (.t 20))]) (.seq (.ops [ oq 21 (.mv (.t 5)),oq 22 (.bin .gtr (.t 21) (.v (.int .i64 0))),oq 4 (.mv (.t 22))]) .ret)))
@[go_sem] def c105_11_wp:=wp_of c105_11.eq_1
def c105:AFn:=⟨23,[.t 4],c105_11⟩
theorem c105_ok:compF Tryz.prog Tryz.f105=some c105:=by kernel_rfl
theorem a105 {args:List AV} {σ:ASt} {R:AV->ASt->Prop} (hl:args.length<=23) (h:c105_11.wp Tryz.prog (RetQ [.t 4] R) (init args) σ):ACalls Tryz.prog 105 args σ R:=acalls_of Tryz.func105 c105_ok hl h
/-! 123: tabular/slot.Room -/
def c123_10:ACode := .seq (.ops [ oq 2 (.mv (.v (.int .i64 0)))]) (.seq (.ops [ oq 4 (.mv (.t 0)),oe 5 (.call 107 [(.t 4)]),oq 6 (.bin .mul (.v (.int .i64 4)) (.t 5)),oq 7 (.bin .sub (.v (.int .i64 500)) (.t 6)),oq 8 (.mv (.t 0)),oe 9 (.call 155 [(.t 8)]),oq 10 (.bin .sub (.t 7) (.t 9)),oq 3 (.mv (.t 10))]) (.seq (.seq (.ops [ oq 11 (.mv (.t 0)),oe 12 (.call 124 [(.t 11)]),oq 13 (.mv (.t 0)),oe 14 (.call 107 [(.t 13)]),oq 15 (.bin .eql (.t 12) (.t 14))]) (.cond (.t 15) (.ops [ oq 16 (.mv (.t 3)),oq 17 (.bin .sub (.t 16) (.v (.int .i64 4))),oq 3 (.mv (.t 17))]) .skip)) (.seq (.ops [ oq 18 (.mv (.t 3)),oq 2 (.mv (.t 18))]) .ret)))
@[go_sem] def c123_10_wp:=wp_of c123_10.eq_1
def c123:AFn:=⟨19,[.t 2],c123_10⟩
theorem c123_ok:compF Tryz.prog Tryz.f123=some c123:=by kernel_rfl
theorem a123 {args:List AV} {σ:ASt} {R:AV->ASt->Prop} (hl:args.length<=19) (h:c123_10.wp Tryz.prog (RetQ [.t 2] R) (init args) σ):ACalls Tryz.prog 123 args σ R:=acalls_of Tryz.func123 c123_ok hl h
/-! 124: tabular/slot.empty -/
def c124_17:ACode := .seq (.ops [ oq 9 (.bin .lss (.t 8) (.t 7))]) (.seq (.cond (.t 9) .skip (.exit 0)) (.seq (.block 1 (.seq (.ops [ oq 10 (.mv (.t 8)),oq 3 (.mv (.t 10))]) (.seq (.ops [ oq 12 (.mv (.t 0)),oq 13 (.mv (.t 3)),oe 14 (.call 108 [(.t 12),(.t 13)]),oq 11 (.mv (.t 14)),oq 15 (.ext 0 (.t 11)),oq 16 (.ext 1 (.t 11)),oq 4 (.mv (.t 15)),oq 5 (.mv (.t 16))]) (.seq (.ops [ oq 17 (.mv (.t 4)),oq 18 (.bin .eql (.t 17) (.v (.int .i64 0)))]) (.cond (.t 18) (.seq (.ops [ oq 19 (.mv (.t 3)),oq 2 (.mv (.t 19))]) .ret) .skip))))) (.ops [ oq 20 (.bin .add (.t 8) (.v (.int .i64 1))),oq 8 (.mv (.t 20))])))
def c124_24:ACode := .seq (.ops [ oq 2 (.mv (.v (.int .i64 0)))]) (.seq (.seq (.ops [ oq 6 (.mv (.t 0)),oe 7 (.call 107 [(.t 6)]),oq 8 (.mv (.v (.int .i64 0)))]) (.block 0 (.loop c124_17))) (.seq (.ops [ oq 21 (.mv (.t 0)),oe 22 (.call 107 [(.t 21)]),oq 2 (.mv (.t 22))]) .ret))
@[go_sem] def c124_17_wp:=wp_of c124_17.eq_1
@[go_sem] def c124_24_wp:=wp_of c124_24.eq_1
def c124:AFn:=⟨23,[.t 2],c124_24⟩
theorem c124_ok:compF Tryz.prog Tryz.f124=some c124:=by kernel_rfl
theorem a124 {args:List AV} {σ:ASt} {R:AV->ASt->Prop} (hl:args.length<=23) (h:c124_24.wp Tryz.prog (RetQ [.t 2] R) (init args) σ):ACalls Tryz.prog 124 args σ R:=acalls_of Tryz.func124 c124_ok hl h
/-! 155: tabular/slot.used -/
def c155_17:ACode := .seq (.ops [ oq 10 (.bin .lss (.t 9) (.t 8))]) (.seq (.cond (.t 10) .skip (.exit 0)) (.seq (.block 1 (.seq (.ops [ oq 11 (.mv (.t 9)),oq 4 (.mv (.t 11))]) (.seq (.ops [ oq 13 (.mv (.t 0)),oq 14 (.mv (.t 4)),oe 15 (.call 108 [(.t 13),(.t 14)]),oq 12 (.mv (.t 15)),oq 16 (.ext 0 (.t 12)),oq 17 (.ext 1 (.t 12)),oq 5 (.mv (.t 16)),oq 6 (.mv (.t 17))]) (.seq (.ops [ oq 18 (.mv (.t 5)),oq 19 (.bin .gtr (.t 18) (.v (.int .i64 0)))]) (.cond (.t 19) (.ops [ oq 20 (.mv (.t 3)),oq 21 (.mv (.t 6)),oq 22 (.bin .add (.t 20) (.t 21)),oq 3 (.mv (.t 22))]) .skip))))) (.ops [ oq 23 (.bin .add (.t 9) (.v (.int .i64 1))),oq 9 (.mv (.t 23))])))
def c155_25:ACode := .seq (.ops [ oq 2 (.mv (.v (.int .i64 0)))]) (.seq (.ops [ oq 3 (.mv (.v (.int .i64 0)))]) (.seq (.seq (.ops [ oq 7 (.mv (.t 0)),oe 8 (.call 107 [(.t 7)]),oq 9 (.mv (.v (.int .i64 0)))]) (.block 0 (.loop c155_17))) (.seq (.ops [ oq 24 (.mv (.t 3)),oq 2 (.mv (.t 24))]) .ret)))
@[go_sem] def c155_17_wp:=wp_of c155_17.eq_1
@[go_sem] def c155_25_wp:=wp_of c155_25.eq_1
def c155:AFn:=⟨25,[.t 2],c155_25⟩
theorem c155_ok:compF Tryz.prog Tryz.f155=some c155:=by kernel_rfl
theorem a155 {args:List AV} {σ:ASt} {R:AV->ASt->Prop} (hl:args.length<=25) (h:c155_25.wp Tryz.prog (RetQ [.t 2] R) (init args) σ):ACalls Tryz.prog 155 args σ R:=acalls_of Tryz.func155 c155_ok hl h
end Go.A
namespace Go.A
open Go.Proofs
def liveR:Rcs->Nat
 | []=>0
 | none::R=>liveR R
 | some _::R=>liveR R+1
def emptyR:Rcs->Nat
 | []=>0
 | none::_=>0
 | some _::R=>emptyR R+1
theorem liveR_app (R S:Rcs):liveR (R++S)=liveR R+liveR S:=by
 induction R with
 | nil=>simp [liveR]
 | cons x R ih=>cases x<;>simp only [List.cons_append,liveR,ih]<;>omega
theorem liveR_at {R:Rcs} {i:Nat} {x:Option (List UInt8)} (h:R[i]? = some x):liveR (R.take (i+1))=liveR (R.take i)+if x.isSome then 1 else 0:=by
 rw [List.take_add_one,h,liveR_app]
 cases x<;>rfl
theorem liveR_le:∀ R:Rcs,liveR R<=R.length
 | []=>Nat.le_refl _
 | none::R=>by have:=liveR_le R;simp only [liveR,List.length_cons];omega
 | some _::R=>by have:=liveR_le R;simp only [liveR,List.length_cons];omega
theorem liveR_pos:∀ {R:Rcs} {i:Nat} {s:List UInt8},R[i]? = some (some s)->0<liveR R
 | x::R,0,s,h=>by injection h with h;subst h;simp only [liveR];omega
 | x::R,i+1,s,h=>by
   have:=liveR_pos (R:=R) (i:=i) h
   cases x<;>simp only [liveR]<;>omega
theorem emptyR_le:∀ R:Rcs,emptyR R<=R.length
 | []=>Nat.le_refl _
 | none::R=>Nat.zero_le _
 | some _::R=>by have:=emptyR_le R;simp only [emptyR,List.length_cons];omega
theorem emptyR_at:∀ {R:Rcs},emptyR R<R.length->R[emptyR R]? = some none
 | [],h=>absurd h (Nat.lt_irrefl _)
 | none::R,_=>rfl
 | some _::R,h=>by
   simp only [emptyR,List.length_cons] at h ⊢
   exact emptyR_at (R:=R) (by omega)
theorem emptyR_before:∀ {R:Rcs} {j:Nat},j<emptyR R->∃ s,R[j]? = some (some s)
 | [],j,h=>absurd h (Nat.not_lt_zero _)
 | none::R,j,h=>absurd h (Nat.not_lt_zero _)
 | some s::R,0,_=>⟨s,rfl⟩
 | some _::R,j+1,h=>emptyR_before (R:=R) (by simp only [emptyR] at h;omega)
def roomR (R:Rcs):Int:=500-4*(R.length:Int)-(usedR R:Int)-if emptyR R=R.length then 4 else 0
section
variable {σ:ASt} {B c i:Nat} {b:List UInt8} {R:Rcs} {s:List UInt8}
theorem SW.pos (h:SW b R) (hR:R[i]? = some (some s)):0<slAt b i:=by
 have:=(h.live i s hR).1
 have:=h.lo
 omega
theorem usedR_bound (h:∀ x∈R,szR x<=504):usedR R<=504*R.length:=by
 induction R with
 | nil=>simp [usedR]
 | cons x R ih=>
   have h1:=h x List.mem_cons_self
   have h2:=ih fun y hy=>h y (List.mem_cons_of_mem _ hy)
   simp only [usedR,List.length_cons]
   omega
theorem SW.used_le (h:SW b R):usedR R<=63000:=by
 have h1:∀ x∈R,szR x<=504:=fun x hx=>by
  obtain ⟨j,hj⟩:=List.mem_iff_getElem?.1 hx
  cases x with
  | none=>exact Nat.zero_le _
  | some s=>have:=h.live j s hj;show s.length<=504;omega
 have h2:=usedR_bound h1
 have:=h.few
 omega
theorem sllive_ok (hB:σ B=some (.obj (bytesAV b))) (h:SW b R):ACalls Tryz.prog 49 [.msl B 0 504 c] σ fun r σ'=>r = .int .i64 (liveR R)/\σ'=σ:=by
 have hl:=h.hl
 have hf:=h.few
 have hn:=sllen_ok (c:=c) hB hl
 rw [h.n] at hn
 have hsl:=fun (i:Nat) (hi:i<125)=>slslot_ok (c:=c) hB hl hi
 refine a49 (by simp) ?_
 simp (disch:=first|assumption|omega|(simp only [List.length_append,List.length_cons,List.length_nil];omega)) only [go_sem]
 refine hn.mono ?_
 rintro v σ1 ⟨rfl,rfl⟩
 simp (disch:=first|assumption|omega|(simp only [List.length_append,List.length_cons,List.length_nil];omega)) only [go_sem]
 refine wp_loop_on (fun (i:Nat) a1 s2=>i<=R.length/\(a1 0 = .msl B 0 504 c/\a1 3 = .int .i64 (liveR (R.take i))/\a1 8 = .int .i64 R.length/\a1 9 = .int .i64 i)/\s2=σ1) (fun i=>R.length+1-i) 0 ⟨Nat.zero_le _,?_,rfl⟩ ?_
 ·simp (disch:=first|assumption|omega|(simp only [List.length_append,List.length_cons,List.length_nil];omega)) only [go_sem]
  rfl
 rintro i a1 s2 ⟨hi,hf1,rfl⟩
 by_cases hlt':i<R.length
 ·have hlt:(i:Int)<(R.length:Int):=by omega
  obtain ⟨x,hx⟩:∃ x,R[i]? = some x:=⟨_,List.getElem?_eq_getElem hlt'⟩
  have hla:=liveR_at hx
  have hll:=liveR_le (R.take i)
  have htl:(R.take i).length=i:=by rw [List.length_take];omega
  simp (disch:=first|assumption|omega|(simp only [List.length_append,List.length_cons,List.length_nil];omega)) only [go_sem,hf1,hlt]
  refine (hsl i (by omega)).mono ?_
  rintro v σ2 ⟨rfl,rfl⟩
  cases x with
  | none=>
    have h0:=(h.dead i hx).1
    rw [h0]
    have h0':¬ (0:Int)<((0:Nat):Int):=by omega
    simp (disch:=first|assumption|omega|(simp only [List.length_append,List.length_cons,List.length_nil];omega)) only [go_sem,hf1,h0']
    refine ⟨i+1,by omega,by omega,?_,rfl⟩
    rw [hla]
    simp (disch:=first|assumption|omega|(simp only [List.length_append,List.length_cons,List.length_nil];omega)) only [go_sem,hf1]
    all_goals (first|rfl|exact ⟨rfl,rfl⟩)
  | some t=>
    have hp:(0:Int)<(slAt b i:Int):=by have:=h.pos hx;omega
    simp (disch:=first|assumption|omega|(simp only [List.length_append,List.length_cons,List.length_nil];omega)) only [go_sem,hf1,hp]
    refine ⟨i+1,by omega,by omega,?_,rfl⟩
    rw [hla]
    simp (disch:=first|assumption|omega|(simp only [List.length_append,List.length_cons,List.length_nil];omega)) only [go_sem,hf1]
    all_goals (first|rfl|exact ⟨rfl,rfl⟩)
 ·have hlt:¬ (i:Int)<(R.length:Int):=by omega
  have he:i=R.length:=by omega
  rw [he,List.take_length] at hf1
  rw [he] at hlt
  simp (disch:=first|assumption|omega|(simp only [List.length_append,List.length_cons,List.length_nil];omega)) only [go_sem,hf1,hlt]
  exact retC_by (.refl _) (.refl _) ⟨rfl,rfl⟩
theorem slused_ok (hB:σ B=some (.obj (bytesAV b))) (h:SW b R):ACalls Tryz.prog 155 [.msl B 0 504 c] σ fun r σ'=>r = .int .i64 (usedR R)/\σ'=σ:=by
 have hl:=h.hl
 have hf:=h.few
 have hn:=sllen_ok (c:=c) hB hl
 rw [h.n] at hn
 have hsl:=fun (i:Nat) (hi:i<125)=>slslot_ok (c:=c) hB hl hi
 refine a155 (by simp) ?_
 simp (disch:=first|assumption|omega|(simp only [List.length_append,List.length_cons,List.length_nil];omega)) only [go_sem]
 refine hn.mono ?_
 rintro v σ1 ⟨rfl,rfl⟩
 simp (disch:=first|assumption|omega|(simp only [List.length_append,List.length_cons,List.length_nil];omega)) only [go_sem]
 refine wp_loop_on (fun (i:Nat) a1 s2=>i<=R.length/\(a1 0 = .msl B 0 504 c/\a1 3 = .int .i64 (usedR (R.take i))/\a1 8 = .int .i64 R.length/\a1 9 = .int .i64 i)/\s2=σ1) (fun i=>R.length+1-i) 0 ⟨Nat.zero_le _,?_,rfl⟩ ?_
 ·simp (disch:=first|assumption|omega|(simp only [List.length_append,List.length_cons,List.length_nil];omega)) only [go_sem]
  rfl
 rintro i a1 s2 ⟨hi,hf1,rfl⟩
 by_cases hlt':i<R.length
 ·have hlt:(i:Int)<(R.length:Int):=by omega
  obtain ⟨x,hx⟩:∃ x,R[i]? = some x:=⟨_,List.getElem?_eq_getElem hlt'⟩
  have hla:=usedR_at hx
  have hll:=usedR_take R i
  have hul:=h.used_le
  simp (disch:=first|assumption|omega|(simp only [List.length_append,List.length_cons,List.length_nil];omega)) only [go_sem,hf1,hlt]
  refine (hsl i (by omega)).mono ?_
  rintro v σ2 ⟨rfl,rfl⟩
  cases x with
  | none=>
    have h0:=(h.dead i hx).1
    rw [h0]
    have h0':¬ (0:Int)<((0:Nat):Int):=by omega
    simp (disch:=first|assumption|omega|(simp only [List.length_append,List.length_cons,List.length_nil];omega)) only [go_sem,hf1,h0']
    refine ⟨i+1,by omega,by omega,?_,rfl⟩
    rw [hla]
    simp (disch:=first|assumption|omega|(simp only [List.length_append,List.length_cons,List.length_nil];omega)) only [go_sem,hf1]
    all_goals (first|rfl|exact ⟨rfl,rfl⟩)
  | some t=>
    have hp:(0:Int)<(slAt b i:Int):=by have:=h.pos hx;omega
    obtain ⟨_,k2,k3,_⟩:=h.live i t hx
    rw [k3]
    have hz:szR (some t)=t.length:=rfl
    simp (disch:=first|assumption|omega|(simp only [List.length_append,List.length_cons,List.length_nil];omega)) only [go_sem,hf1,hp]
    refine ⟨i+1,by omega,by omega,?_,rfl⟩
    rw [hla,hz]
    simp (disch:=first|assumption|omega|(simp only [List.length_append,List.length_cons,List.length_nil];omega)) only [go_sem,hf1]
    all_goals (first|rfl|exact ⟨rfl,rfl⟩)
 ·have hlt:¬ (i:Int)<(R.length:Int):=by omega
  have he:i=R.length:=by omega
  rw [he,List.take_length] at hf1
  rw [he] at hlt
  simp (disch:=first|assumption|omega|(simp only [List.length_append,List.length_cons,List.length_nil];omega)) only [go_sem,hf1,hlt]
  exact retC_by (.refl _) (.refl _) ⟨rfl,rfl⟩
theorem slempty_ok (hB:σ B=some (.obj (bytesAV b))) (h:SW b R):ACalls Tryz.prog 124 [.msl B 0 504 c] σ fun r σ'=>r = .int .i64 (emptyR R)/\σ'=σ:=by
 have hl:=h.hl
 have hf:=h.few
 have hn:=sllen_ok (c:=c) hB hl
 rw [h.n] at hn
 have hsl:=fun (i:Nat) (hi:i<125)=>slslot_ok (c:=c) hB hl hi
 have hel:=emptyR_le R
 refine a124 (by simp) ?_
 simp (disch:=first|assumption|omega|(simp only [List.length_append,List.length_cons,List.length_nil];omega)) only [go_sem]
 refine hn.mono ?_
 rintro v σ1 ⟨rfl,rfl⟩
 simp (disch:=first|assumption|omega|(simp only [List.length_append,List.length_cons,List.length_nil];omega)) only [go_sem]
 refine wp_loop_on (fun (i:Nat) a1 s2=>i<=emptyR R/\(a1 0 = .msl B 0 504 c/\a1 7 = .int .i64 R.length/\a1 8 = .int .i64 i)/\s2=σ1) (fun i=>R.length+1-i) 0 ⟨Nat.zero_le _,?_,rfl⟩ ?_
 ·simp (disch:=first|assumption|omega|(simp only [List.length_append,List.length_cons,List.length_nil];omega)) only [go_sem]
 rintro i a1 s2 ⟨hi,hf1,rfl⟩
 by_cases hlt':i<R.length
 ·have hlt:(i:Int)<(R.length:Int):=by omega
  simp (disch:=first|assumption|omega|(simp only [List.length_append,List.length_cons,List.length_nil];omega)) only [go_sem,hf1,hlt]
  refine (hsl i (by omega)).mono ?_
  rintro v σ2 ⟨rfl,rfl⟩
  by_cases he:i=emptyR R
  ·have h0:=(h.dead i (by rw [he];exact emptyR_at (by omega))).1
   rw [h0]
   have h0':((0:Nat):Int)=0:=rfl
   simp (disch:=first|assumption|omega|(simp only [List.length_append,List.length_cons,List.length_nil];omega)) only [go_sem,hf1,h0']
   exact retC_by (.refl _) (.refl _) ⟨by rw [he];rfl,rfl⟩
  ·obtain ⟨t,ht⟩:=emptyR_before (R:=R) (j:=i) (by omega)
   have hp:¬ (slAt b i:Int)=0:=by have:=h.pos ht;omega
   simp (disch:=first|assumption|omega|(simp only [List.length_append,List.length_cons,List.length_nil];omega)) only [go_sem,hf1,hp]
   exact ⟨i+1,by omega,by omega,rfl⟩
 ·have hlt:¬ (i:Int)<(R.length:Int):=by omega
  have he:emptyR R=R.length:=by omega
  simp (disch:=first|assumption|omega|(simp only [List.length_append,List.length_cons,List.length_nil];omega)) only [go_sem,hf1,hlt]
  refine hn.mono ?_
  rintro v σ2 ⟨rfl,rfl⟩
  simp (disch:=first|assumption|omega|(simp only [List.length_append,List.length_cons,List.length_nil];omega)) only [go_sem]
  exact retC_by (.refl _) (.refl _) ⟨by rw [he];rfl,rfl⟩
theorem slroom_ok (hB:σ B=some (.obj (bytesAV b))) (h:SW b R):ACalls Tryz.prog 123 [.msl B 0 504 c] σ fun r σ'=>r = .int .i64 (roomR R)/\σ'=σ:=by
 have hl:=h.hl
 have hf:=h.few
 have hn:=sllen_ok (c:=c) hB hl
 rw [h.n] at hn
 have hu:=slused_ok (c:=c) hB h
 have he:=slempty_ok (c:=c) hB h
 have hul:=h.used_le
 have hel:=emptyR_le R
 unfold roomR
 refine a123 (by simp) ?_
 simp (disch:=first|assumption|omega|(simp only [List.length_append,List.length_cons,List.length_nil];omega)) only [go_sem]
 refine hn.mono ?_
 rintro v σ1 ⟨rfl,rfl⟩
 simp (disch:=first|assumption|omega|(simp only [List.length_append,List.length_cons,List.length_nil];omega)) only [go_sem]
 refine hu.mono ?_
 rintro v σ1 ⟨rfl,rfl⟩
 simp (disch:=first|assumption|omega|(simp only [List.length_append,List.length_cons,List.length_nil];omega)) only [go_sem]
 refine he.mono ?_
 rintro v σ1 ⟨rfl,rfl⟩
 simp (disch:=first|assumption|omega|(simp only [List.length_append,List.length_cons,List.length_nil];omega)) only [go_sem]
 refine hn.mono ?_
 rintro v σ1 ⟨rfl,rfl⟩
 by_cases hc:emptyR R=R.length
 ·have hc':(emptyR R:Int)=(R.length:Int):=by omega
  rw [if_pos hc]
  simp (disch:=first|assumption|omega|(simp only [List.length_append,List.length_cons,List.length_nil];omega)) only [go_sem,hc']
  exact retC_by (.refl _) (.refl _) ⟨rfl,rfl⟩
 ·have hc':¬ (emptyR R:Int)=(R.length:Int):=by omega
  rw [if_neg hc,Int.sub_zero]
  simp (disch:=first|assumption|omega|(simp only [List.length_append,List.length_cons,List.length_nil];omega)) only [go_sem,hc']
  exact retC_by (.refl _) (.refl _) ⟨rfl,rfl⟩
theorem slhas_ok (hB:σ B=some (.obj (bytesAV b))) (h:SW b R) (hR:R[i]? = some (some s)):ACalls Tryz.prog 105 [.msl B 0 504 c,.int .i64 i] σ fun r σ'=>r = .bool true/\σ'=σ:=by
 have hl:=h.hl
 have hf:=h.few
 have hil:=(List.getElem?_eq_some_iff.1 hR).1
 have hn:=sllen_ok (c:=c) hB hl
 rw [h.n] at hn
 have hsl:=slslot_ok (c:=c) (i:=i) hB hl (by omega)
 have hp:(0:Int)<(slAt b i:Int):=by have:=h.pos hR;omega
 have i0:¬ (i:Int)<0:=by omega
 have i1:¬ (R.length:Int)<=(i:Int):=by omega
 refine a105 (by simp) ?_
 simp (disch:=first|assumption|omega|(simp only [List.length_append,List.length_cons,List.length_nil];omega)) only [go_sem,i0]
 refine hn.mono ?_
 rintro v σ1 ⟨rfl,rfl⟩
 simp (disch:=first|assumption|omega|(simp only [List.length_append,List.length_cons,List.length_nil];omega)) only [go_sem,i1]
 refine hsl.mono ?_
 rintro v σ1 ⟨rfl,rfl⟩
 simp (disch:=first|assumption|omega|(simp only [List.length_append,List.length_cons,List.length_nil];omega)) only [go_sem,hp]
 exact retC_by (.refl _) (.refl _) ⟨rfl,rfl⟩
theorem slget_ok (hB:σ B=some (.obj (bytesAV b))) (h:SW b R) (hR:R[i]? = some (some s)) (hc:504<=c):ACalls Tryz.prog 97 [.msl B 0 504 c,.int .i64 i] σ fun r σ'=>r = .tuple [.str s,.bool true]/\σ'=σ:=by
 have hl:=h.hl
 have hf:=h.few
 have hil:=(List.getElem?_eq_some_iff.1 hR).1
 have hh:=slhas_ok (c:=c) hB h hR
 have hsl:=slslot_ok (c:=c) (i:=i) hB hl (by omega)
 obtain ⟨k1,k2,k3,k4,k5⟩:=h.live i s hR
 rw [k3] at hsl
 have hs0:0<s.length:=List.length_pos_iff.2 k4
 obtain ⟨p,hp⟩:∃ p,p=slAt b i:=⟨_,rfl⟩
 rw [<-hp] at hsl k1 k2 k5
 obtain ⟨q,hq⟩:∃ q,q=p+s.length:=⟨_,rfl⟩
 have e1:(p:Int)+(s.length:Int)=(q:Int):=by omega
 have hsv:slV (false,1) (.msl B 0 504 c) (p:Int) (q:Int)=some (.msl B (0+p) (q-p) (c-p)):=slV_nat (by omega) (by omega) (by omega)
 have e2:q-p=s.length:=by omega
 rw [e2,Nat.zero_add] at hsv
 have hbt:((bytesAV b).drop p).take s.length=bytesAV s:=by rw [bat_bytes,k5]
 have hle:p+s.length<=(bytesAV b).length:=by rw [kbytes_len];omega
 generalize bytesAV b=M at *
 refine a97 (by simp) ?_
 simp (disch:=first|assumption|omega|(simp only [List.length_append,List.length_cons,List.length_nil];omega)) only [go_sem]
 refine hh.mono ?_
 rintro v σ1 ⟨rfl,rfl⟩
 simp (disch:=first|assumption|omega|(simp only [List.length_append,List.length_cons,List.length_nil];omega)) only [go_sem]
 refine hsl.mono ?_
 rintro v σ1 ⟨rfl,rfl⟩
 simp (disch:=first|assumption|omega|(simp only [List.length_append,List.length_cons,List.length_nil];omega)) only [go_sem,e1,hsv,hB,hle,hbt]
 exact retC_by (.refl _) (.refl _) ⟨rfl,rfl⟩
end
end Go.A
namespace Go.A
open Go.Proofs
/-! 62: tabular/slot.Init -/
def c62_2:ACode := .seq (.ops [ oq 2 (.mv (.t 0)),oz (.clr [(.int .u8 0)] (.t 2))]) (.ops [ oq 3 (.mv (.t 0)),oe 4 (.call 109 [(.t 3),(.v (.int .i64 2)),(.v (.int .i64 504))])])
@[go_sem] def c62_2_wp:=wp_of c62_2.eq_1
def c62:AFn:=⟨5,[],c62_2⟩
theorem c62_ok:compF Tryz.prog Tryz.f62=some c62:=by kernel_rfl
theorem a62 {args:List AV} {σ:ASt} {R:AV->ASt->Prop} (hl:args.length<=5) (h:c62_2.wp Tryz.prog (RetQ [] R) (init args) σ):ACalls Tryz.prog 62 args σ R:=acalls_of Tryz.func62 c62_ok hl h
/-! 63: tabular/slot.Add -/
def c63_25:ACode := .seq (.ops [ oq 4 (.mv (.v (.int .i64 0))),oq 5 (.mv (.v (.bool false)))]) (.seq (.seq (.ops [ oq 7 (.mv (.t 1)),oq 8 (.lenS (.t 7)),oq 9 (.mv (.t 0)),oe 10 (.call 123 [(.t 9)]),oq 11 (.bin .gtr (.t 8) (.t 10)),oq 12 (.mv (.t 11)),⟨some 13,some (12,false),.q (.mv (.t 1)),[]⟩,⟨some 14,some (12,false),.q (.bin .eql (.t 13) (.v (.str []))),[]⟩,oq 15 (.pick (.t 12) (.v (.bool true)) (.t 14))]) (.cond (.t 15) (.seq (.ops [ oq 4 (.mv (.v (.int .i64 0))),oq 5 (.mv (.v (.bool false)))]) .ret) .skip)) (.seq (.ops [ oq 16 (.mv (.t 0)),oe 17 (.call 124 [(.t 16)]),oq 6 (.mv (.t 17))]) (.seq (.seq (.ops [ oq 18 (.mv (.t 6)),oq 19 (.mv (.t 0)),oe 20 (.call 107 [(.t 19)]),oq 21 (.bin .eql (.t 18) (.t 20))]) (.cond (.t 21) (.seq (.seq (.ops [ oq 22 (.mv (.t 0)),oe 23 (.call 125 [(.t 22)]),oq 24 (.mv (.t 6)),oq 25 (.bin .add (.t 24) (.v (.int .i64 1))),oq 26 (.bin .mul (.v (.int .i64 4)) (.t 25)),oq 27 (.bin .add (.v (.int .i64 4)) (.t 26)),oq 28 (.bin .lss (.t 23) (.t 27))]) (.cond (.t 28) (.ops [ oq 29 (.mv (.t 0)),oe 30 (.call 126 [(.t 29)])]) .skip)) (.seq (.ops [ oq 31 (.mv (.t 0)),oq 32 (.mv (.t 6)),oq 33 (.bin .add (.t 32) (.v (.int .i64 1))),oe 34 (.call 109 [(.t 31),(.v (.int .i64 0)),(.t 33)])]) (.ops [ oq 35 (.mv (.t 0)),oq 36 (.mv (.t 6)),oe 37 (.call 106 [(.t 35),(.t 36),(.v (.int .i64 0)),(.v (.int .i64 0))])]))) .skip)) (.seq (.ops [ oq 38 (.mv (.t 0)),oq 39 (.mv (.t 6)),oq 40 (.mv (.t 1)),oe 41 (.call 127 [(.t 38),(.t 39),(.t 40)])]) (.seq (.ops [ oq 42 (.mv (.t 6)),oq 4 (.mv (.t 42)),oq 5 (.mv (.v (.bool true)))]) .ret)))))
@[go_sem] def c63_25_wp:=wp_of c63_25.eq_1
def c63:AFn:=⟨43,[.t 4,.t 5],c63_25⟩
theorem c63_ok:compF Tryz.prog Tryz.f63=some c63:=by kernel_rfl
theorem a63 {args:List AV} {σ:ASt} {R:AV->ASt->Prop} (hl:args.length<=43) (h:c63_25.wp Tryz.prog (RetQ [.t 4,.t 5] R) (init args) σ):ACalls Tryz.prog 63 args σ R:=acalls_of Tryz.func63 c63_ok hl h
/-! 126: tabular/slot.pack -/
def c126_22:ACode := .seq (.ops [ oq 12 (.bin .lss (.t 11) (.t 10))]) (.seq (.cond (.t 12) .skip (.exit 0)) (.seq (.block 1 (.seq (.ops [ oq 13 (.mv (.t 11)),oq 4 (.mv (.t 13))]) (.seq (.ops [ oq 15 (.mv (.t 0)),oq 16 (.mv (.t 4)),oe 17 (.call 108 [(.t 15),(.t 16)]),oq 14 (.mv (.t 17)),oq 18 (.ext 0 (.t 14)),oq 19 (.ext 1 (.t 14)),oq 5 (.mv (.t 18)),oq 6 (.mv (.t 19))]) (.seq (.seq (.ops [ oq 20 (.mv (.t 5)),oq 21 (.bin .eql (.t 20) (.v (.int .i64 0)))]) (.cond (.t 21) (.exit 1) .skip)) (.seq (.ops [ oq 22 (.mv (.t 3)),oq 23 (.mv (.t 6)),oq 24 (.bin .sub (.t 22) (.t 23)),oq 3 (.mv (.t 24))]) (.seq (.ops [ oq 25 (.mv (.t 0)),oq 26 (.mv (.t 3)),oq 27 (.slfrom (false,1) (.t 25) (.t 26)),oq 28 (.mv (.t 2)),oq 29 (.mv (.t 5)),oq 30 (.mv (.t 5)),oq 31 (.mv (.t 6)),oq 32 (.bin .add (.t 30) (.t 31)),oq 33 (.sls (true,0) (.t 28) (.t 29) (.t 32)),oe 34 (.cpy (.t 27) (.t 33))]) (.ops [ oq 35 (.mv (.t 0)),oq 36 (.mv (.t 4)),oq 37 (.mv (.t 3)),oq 38 (.mv (.t 6)),oe 39 (.call 106 [(.t 35),(.t 36),(.t 37),(.t 38)])]))))))) (.ops [ oq 40 (.bin .add (.t 11) (.v (.int .i64 1))),oq 11 (.mv (.t 40))])))
def c126_31:ACode := .seq (.ops [ oq 7 (.mv (.t 0)),oq 8 (.b2s (.t 7)),oq 2 (.mv (.t 8))]) (.seq (.ops [ oq 3 (.mv (.v (.int .i64 504)))]) (.seq (.seq (.ops [ oq 9 (.mv (.t 0)),oe 10 (.call 107 [(.t 9)]),oq 11 (.mv (.v (.int .i64 0)))]) (.block 0 (.loop c126_22))) (.seq (.ops [ oq 41 (.mv (.t 0)),oq 42 (.mv (.t 3)),oe 43 (.call 109 [(.t 41),(.v (.int .i64 2)),(.t 42)])]) (.ops [ oq 44 (.mv (.t 0)),oq 45 (.mv (.t 0)),oe 46 (.call 107 [(.t 45)]),oq 47 (.bin .mul (.v (.int .i64 4)) (.t 46)),oq 48 (.bin .add (.v (.int .i64 4)) (.t 47)),oq 49 (.mv (.t 3)),oq 50 (.sls (false,1) (.t 44) (.t 48) (.t 49)),oz (.clr [(.int .u8 0)] (.t 50))]))))
@[go_sem] def c126_22_wp:=wp_of c126_22.eq_1
@[go_sem] def c126_31_wp:=wp_of c126_31.eq_1
def c126:AFn:=⟨51,[],c126_31⟩
theorem c126_ok:compF Tryz.prog Tryz.f126=some c126:=by kernel_rfl
theorem a126 {args:List AV} {σ:ASt} {R:AV->ASt->Prop} (hl:args.length<=51) (h:c126_31.wp Tryz.prog (RetQ [] R) (init args) σ):ACalls Tryz.prog 126 args σ R:=acalls_of Tryz.func126 c126_ok hl h
/-! 127: tabular/slot.store -/
def c127_11:ACode := .seq (.seq (.ops [ oq 7 (.mv (.t 0)),oe 8 (.call 125 [(.t 7)]),oq 9 (.mv (.t 2)),oq 10 (.lenS (.t 9)),oq 11 (.bin .sub (.t 8) (.t 10)),oq 12 (.mv (.t 0)),oe 13 (.call 107 [(.t 12)]),oq 14 (.bin .mul (.v (.int .i64 4)) (.t 13)),oq 15 (.bin .add (.v (.int .i64 4)) (.t 14)),oq 16 (.bin .lss (.t 11) (.t 15))]) (.cond (.t 16) (.ops [ oq 17 (.mv (.t 0)),oe 18 (.call 126 [(.t 17)])]) .skip)) (.seq (.ops [ oq 19 (.mv (.t 0)),oe 20 (.call 125 [(.t 19)]),oq 21 (.mv (.t 2)),oq 22 (.lenS (.t 21)),oq 23 (.bin .sub (.t 20) (.t 22)),oq 6 (.mv (.t 23))]) (.seq (.ops [ oq 24 (.mv (.t 0)),oq 25 (.mv (.t 6)),oq 26 (.slfrom (false,1) (.t 24) (.t 25)),oq 27 (.mv (.t 2)),oe 28 (.cpy (.t 26) (.t 27))]) (.seq (.ops [ oq 29 (.mv (.t 0)),oq 30 (.mv (.t 1)),oq 31 (.mv (.t 6)),oq 32 (.mv (.t 2)),oq 33 (.lenS (.t 32)),oe 34 (.call 106 [(.t 29),(.t 30),(.t 31),(.t 33)])]) (.ops [ oq 35 (.mv (.t 0)),oq 36 (.mv (.t 6)),oe 37 (.call 109 [(.t 35),(.v (.int .i64 2)),(.t 36)])]))))
@[go_sem] def c127_11_wp:=wp_of c127_11.eq_1
def c127:AFn:=⟨38,[],c127_11⟩
theorem c127_ok:compF Tryz.prog Tryz.f127=some c127:=by kernel_rfl
theorem a127 {args:List AV} {σ:ASt} {R:AV->ASt->Prop} (hl:args.length<=38) (h:c127_11.wp Tryz.prog (RetQ [] R) (init args) σ):ACalls Tryz.prog 127 args σ R:=acalls_of Tryz.func127 c127_ok hl h
end Go.A
end
