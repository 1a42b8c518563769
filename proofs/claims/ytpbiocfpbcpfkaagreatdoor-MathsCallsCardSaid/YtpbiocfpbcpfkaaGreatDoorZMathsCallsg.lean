/- Part 7 of what MathsCalls leans on: CodeRs Rs Hr CodeRt Rt CodeRu Ru Hta Htd. -/
import Derived.Test.YtpbiocfpbcpfkaaGreatDoorProg
import Derived.KernelRfl
import Derived.Test.YtpbiocfpbcpfkaaGreatDoorZMathsCallsf
set_option linter.defProp false
set_option linter.unusedSimpArgs false
set_option linter.unusedVariables false
set_option maxRecDepth 100000
namespace Go.A
open Go.Proofs
/-! 85: tabular/tabularref01.Times -/
def c85_14:ACode := .seq (.seq (.ops [ oq 28 (.mv (.t 7)),oq 29 (.bin .geq (.t 28) (.v (.int .i64 0)))]) (.cond (.t 29) .skip (.exit 2))) (.seq (.block 3 (.ops [ oq 32 (.mv (.t 5)),oq 33 (.mv (.t 6)),oq 34 (.mv (.t 7)),oq 35 (.bin .add (.t 33) (.t 34)),oq 36 (.bin .add (.t 35) (.v (.int .i64 1))),oq 37 (.ia 1 (.t 32) (.t 36)),oq 38 (.ld none (.t 37)),oq 39 (.mv (.t 0)),oq 40 (.mv (.t 6)),oq 41 (.idx (.t 39) (.t 40)),oq 42 (.conv .i64 (.t 41)),oq 43 (.bin .sub (.t 42) (.v (.int .i64 48))),oq 44 (.mv (.t 1)),oq 45 (.mv (.t 7)),oq 46 (.idx (.t 44) (.t 45)),oq 47 (.conv .i64 (.t 46)),oq 48 (.bin .sub (.t 47) (.v (.int .i64 48))),oq 49 (.bin .mul (.t 43) (.t 48)),oq 50 (.bin .add (.t 38) (.t 49)),oq 51 (.ia 1 (.t 32) (.t 36)),oz (.store 1 (.t 51) (.t 50))])) (.ops [ oq 30 (.mv (.t 7)),oq 31 (.bin .sub (.t 30) (.v (.int .i64 1))),oq 7 (.mv (.t 31))]))
def c85_21:ACode := .seq (.seq (.ops [ oq 21 (.mv (.t 6)),oq 22 (.bin .geq (.t 21) (.v (.int .i64 0)))]) (.cond (.t 22) .skip (.exit 0))) (.seq (.block 1 (.seq (.ops [ oq 25 (.mv (.t 1)),oq 26 (.lenS (.t 25)),oq 27 (.bin .sub (.t 26) (.v (.int .i64 1))),oq 7 (.mv (.t 27))]) (.block 2 (.loop c85_14)))) (.ops [ oq 23 (.mv (.t 6)),oq 24 (.bin .sub (.t 23) (.v (.int .i64 1))),oq 6 (.mv (.t 24))]))
def c85_35:ACode := .seq (.seq (.ops [ oq 55 (.mv (.t 8)),oq 56 (.bin .gtr (.t 55) (.v (.int .i64 0)))]) (.cond (.t 56) .skip (.exit 4))) (.seq (.block 5 (.seq (.ops [ oq 59 (.mv (.t 5)),oq 60 (.mv (.t 8)),oq 61 (.bin .sub (.t 60) (.v (.int .i64 1))),oq 62 (.ia 1 (.t 59) (.t 61)),oq 63 (.ld none (.t 62)),oq 64 (.mv (.t 5)),oq 65 (.mv (.t 8)),oq 66 (.ia 1 (.t 64) (.t 65)),oq 67 (.ld none (.t 66)),oq 68 (.bin .quo (.t 67) (.v (.int .i64 10))),oq 69 (.bin .add (.t 63) (.t 68)),oq 70 (.ia 1 (.t 59) (.t 61)),oz (.store 1 (.t 70) (.t 69))]) (.ops [ oq 71 (.mv (.t 5)),oq 72 (.mv (.t 8)),oq 73 (.mv (.t 5)),oq 74 (.mv (.t 8)),oq 75 (.ia 1 (.t 73) (.t 74)),oq 76 (.ld none (.t 75)),oq 77 (.bin .rem (.t 76) (.v (.int .i64 10))),oq 78 (.ia 1 (.t 71) (.t 72)),oz (.store 1 (.t 78) (.t 77))]))) (.ops [ oq 57 (.mv (.t 8)),oq 58 (.bin .sub (.t 57) (.v (.int .i64 1))),oq 8 (.mv (.t 58))]))
def c85_50:ACode := .seq (.ops [ oq 82 (.bin .lss (.t 81) (.t 80))]) (.seq (.cond (.t 82) .skip (.exit 6)) (.seq (.block 7 (.seq (.ops [ oq 83 (.ia 1 (.t 79) (.t 81)),oq 84 (.ld none (.t 83)),oq 11 (.mv (.t 84))]) (.ops [ oq 85 (.mv (.t 9)),oq 86 (.mv (.t 11)),oq 87 (.bin .add (.v (.int .i64 48)) (.t 86)),oq 88 (.conv .u8 (.t 87)),oq 89 (.bsl 1 [(.t 88)]),oq 90 (.b2s (.t 89)),oq 91 (.bin .add (.t 85) (.t 90)),oq 9 (.mv (.t 91))]))) (.ops [ oq 92 (.bin .add (.t 81) (.v (.int .i64 1))),oq 81 (.mv (.t 92))])))
def c85_61:ACode := .seq (.ops [ oq 4 (.mv (.v (.str [])))]) (.seq (.ops [ oq 12 (.mv (.t 0)),oq 13 (.lenS (.t 12)),oq 14 (.mv (.t 1)),oq 15 (.lenS (.t 14)),oq 16 (.bin .add (.t 13) (.t 15)),oe 17 (.mks 3 8 (.int .i64 0) (.t 16) (.t 16)),oq 5 (.mv (.t 17))]) (.seq (.seq (.ops [ oq 18 (.mv (.t 0)),oq 19 (.lenS (.t 18)),oq 20 (.bin .sub (.t 19) (.v (.int .i64 1))),oq 6 (.mv (.t 20))]) (.block 0 (.loop c85_21))) (.seq (.seq (.ops [ oq 52 (.mv (.t 5)),oq 53 (.len (.t 52)),oq 54 (.bin .sub (.t 53) (.v (.int .i64 1))),oq 8 (.mv (.t 54))]) (.block 4 (.loop c85_35))) (.seq (.ops [ oq 9 (.mv (.v (.str [])))]) (.seq (.seq (.ops [ oq 79 (.mv (.t 5)),oq 80 (.len (.t 79)),oq 81 (.mv (.v (.int .i64 0)))]) (.block 6 (.loop c85_50))) (.seq (.ops [ oq 93 (.mv (.t 9)),oq 4 (.mv (.t 93))]) .ret))))))
@[go_sem] def c85_14_wp:=wp_of c85_14.eq_1
@[go_sem] def c85_21_wp:=wp_of c85_21.eq_1
@[go_sem] def c85_35_wp:=wp_of c85_35.eq_1
@[go_sem] def c85_50_wp:=wp_of c85_50.eq_1
@[go_sem] def c85_61_wp:=wp_of c85_61.eq_1
def c85:AFn:=⟨94,[.t 4],c85_61⟩
theorem c85_ok:compF Tryz.prog Tryz.f85=some c85:=by kernel_rfl
theorem a85 {args:List AV} {σ:ASt} {R:AV->ASt->Prop} (hl:args.length<=94) (h:c85_61.wp Tryz.prog (RetQ [.t 4] R) (init args) σ):ACalls Tryz.prog 85 args σ R:=acalls_of Tryz.func85 c85_ok hl h
/-! 86: tabular/tabularref01.Mul -/
def c86_3:ACode := .seq (.ops [ oq 4 (.mv (.v (.int .i64 0))),oq 5 (.mv (.v (.bool false)))]) (.seq (.ops [ oq 6 (.mv (.t 0)),oq 7 (.bin .lss (.t 6) (.v (.int .i64 0))),oq 8 (.mv (.t 1)),oq 9 (.bin .lss (.t 8) (.v (.int .i64 0))),oq 10 (.eq .b true (.t 7) (.t 9)),oq 11 (.mv (.t 0)),oe 12 (.call 41 [(.t 11)]),oe 13 (.call 78 [(.t 12)]),oq 14 (.mv (.t 1)),oe 15 (.call 41 [(.t 14)]),oe 16 (.call 78 [(.t 15)]),oe 17 (.call 85 [(.t 13),(.t 16)]),oe 18 (.call 80 [(.t 17),(.v (.int .i64 4))]),oe 19 (.call 81 [(.t 18)]),oe 20 (.call 79 [(.t 10),(.t 19)]),oq 21 (.ext 0 (.t 20)),oq 22 (.ext 1 (.t 20)),oq 4 (.mv (.t 21)),oq 5 (.mv (.t 22))]) .ret)
@[go_sem] def c86_3_wp:=wp_of c86_3.eq_1
def c86:AFn:=⟨23,[.t 4,.t 5],c86_3⟩
theorem c86_ok:compF Tryz.prog Tryz.f86=some c86:=by kernel_rfl
theorem a86 {args:List AV} {σ:ASt} {R:AV->ASt->Prop} (hl:args.length<=23) (h:c86_3.wp Tryz.prog (RetQ [.t 4,.t 5] R) (init args) σ):ACalls Tryz.prog 86 args σ R:=acalls_of Tryz.func86 c86_ok hl h
end Go.A
namespace Go.A
open Go.Proofs
def dgA (o:List Nat):List AV:=o.map fun d:Nat=>AV.int .i64 ((d:Nat):Int)
theorem dgA_len (o:List Nat):(dgA o).length=o.length:=by unfold dgA;rw [List.length_map]
theorem dgA_get {o:List Nat} {i d:Nat} (h:o[i]? = some d):(dgA o)[i]? = some (.int .i64 (d:Int)):=by unfold dgA;rw [List.getElem?_map,h];rfl
theorem dgA_set {o:List Nat} {i v:Nat} (h:i<o.length):(dgA o).take i ++ [AV.int .i64 (v:Int)]++(dgA o).drop (i+1)=dgA (o.set i v):=by
 unfold dgA
 rw [List.map_set,List.set_eq_take_append_cons_drop,if_pos (by rw [List.length_map];exact h),List.append_assoc]
 rfl
theorem dgA_zero (n:Nat):List.replicate n (AV.int .i64 0)=dgA (List.replicate n 0):=by unfold dgA;rw [List.map_replicate];rfl
theorem pow_gt {x y:List UInt8} (hx:AllD x) (hy:AllD y):nv x*nv y<10 ^ (x.length+y.length):=by
 rw [Nat.pow_add]
 exact Nat.mul_lt_mul'' (nv_lt hx) (nv_lt hy)
theorem mem_at {o:List Nat} {d:Nat} (h:d∈o):∃ i:Nat,o[i]? = some d:=by
 obtain ⟨i,hi,h⟩:=List.mem_iff_getElem.1 h
 exact ⟨i,by rw [List.getElem?_eq_getElem hi,h]⟩
theorem at_some {o:List Nat} {i:Nat} (h:i<o.length):∃ d,o[i]? = some d:=⟨_,List.getElem?_eq_getElem h⟩
set_option maxHeartbeats 4000000 in
theorem times_ok (x y:List UInt8) (hx:AllD x) (hy:AllD y) (lx:1<=x.length) (lx2:x.length<=24) (ly:y.length<=24) (σ:ASt) :
  ACalls Tryz.prog 85 [.str x,.str y] σ fun v σ'=>σ'=σ/\∃ z,v = .str z/\AllD z/\nv z=nv x*nv y/\z.length=x.length+y.length:=by
 obtain ⟨n,hn⟩:∃ n,x.length+y.length=n:=⟨_,rfl⟩
 have hn':(x.length:Int)+y.length=n:=by omega
 have hpg:=pow_gt hx hy
 rw [hn] at hpg ⊢
 refine a85 (by simp) ?_
 simp (disch:=first|assumption|omega|(simp only [List.length_append,List.length_cons,List.length_nil];omega)) only [go_sem,reduceCtorEq,Nat.reduceEqDiff,Nat.reduceAdd,Nat.reduceSub,Nat.reduceMul,Nat.reduceLeDiff,Int.reduceLT,Int.reduceLE,Int.reduceEq,↓reduceIte,Int.reduceNeg,Int.reduceAdd,Int.reduceSub,Int.reduceMul,true_imp_iff,forall_const,Nat.mul_one,Int.reduceToNat,Nat.reducePow,Int.reducePow,Bool.true_and,Bool.false_and,Bool.and_false,hn']
 refine mks_own (by omega) (by omega) (by omega) (by omega) fun B hB=>?_
 rw [Int.toNat_natCast,dgA_zero]
 simp (disch:=first|assumption|omega|(simp only [List.length_append,List.length_cons,List.length_nil];omega)) only [go_sem,reduceCtorEq,Nat.reduceEqDiff,Nat.reduceAdd,Nat.reduceSub,Nat.reduceMul,Nat.reduceLeDiff,Int.reduceLT,Int.reduceLE,Int.reduceEq,↓reduceIte,Int.reduceNeg,Int.reduceAdd,Int.reduceSub,Int.reduceMul,true_imp_iff,forall_const,Nat.mul_one,Int.reduceToNat,Nat.reducePow,Int.reducePow,Bool.true_and,Bool.false_and,Bool.and_false]
 refine wp_loop_on (fun (i:Nat) a s=>i<=x.length/\(∃ o:List Nat,o.length=n/\vl o=nv (x.drop i)*nv y/\(∀ d∈o,d<=2000*(x.length-i))/\s=σ.set B (some (.obj (dgA o))))/\(a 0 = .str x/\a 1 = .str y/\a 5 = .msl B 0 n n/\a 6 = .int .i64 ((i:Int)-1))) (fun i=>i) x.length ⟨Nat.le_refl _,⟨_,List.length_replicate,?_,?_,rfl⟩,?_⟩ ?_
 ·rw [vl_zeros,List.drop_length];simp [nv]
 ·intro d hd;rw [(List.mem_replicate.1 hd).2];omega
 ·simp (disch:=first|assumption|omega|(simp only [List.length_append,List.length_cons,List.length_nil];omega)) only [go_sem,reduceCtorEq,Nat.reduceEqDiff,Nat.reduceAdd,Nat.reduceSub,Nat.reduceMul,Nat.reduceLeDiff,Int.reduceLT,Int.reduceLE,Int.reduceEq,↓reduceIte,Int.reduceNeg,Int.reduceAdd,Int.reduceSub,Int.reduceMul,true_imp_iff,forall_const,Nat.mul_one,Int.reduceToNat,Nat.reducePow,Int.reducePow,Bool.true_and,Bool.false_and,Bool.and_false]
 rintro i a1 s1 ⟨hi,⟨o,hol,hv,hb,rfl⟩,hf⟩
 by_cases h0:i=0
 ·subst h0
  have g0:¬ (0:Int)<=((0:Nat):Int)-1:=by omega
  rw [List.drop_zero] at hv
  simp (disch:=first|assumption|omega|(simp only [List.length_append,List.length_cons,List.length_nil];omega)) only [go_sem,reduceCtorEq,Nat.reduceEqDiff,Nat.reduceAdd,Nat.reduceSub,Nat.reduceMul,Nat.reduceLeDiff,Int.reduceLT,Int.reduceLE,Int.reduceEq,↓reduceIte,Int.reduceNeg,Int.reduceAdd,Int.reduceSub,Int.reduceMul,true_imp_iff,forall_const,Nat.mul_one,Int.reduceToNat,Nat.reducePow,Int.reducePow,Bool.true_and,Bool.false_and,Bool.and_false,hf,g0]
  have hO:∀ m v,o[m]? = some v->(m<n-1->v<=50000)/\(m=n-1->v<=56000)/\(n-1<m->v<10):=by
   intro m v hm
   have h1:=hb v (List.mem_of_getElem? hm)
   have h2:=(List.getElem?_eq_some_iff.1 hm).1
   omega
  have eL:((n:Nat):Int)-1=((n-1:Nat):Int):=by omega
  refine wp_loop_on (fun (j:Nat) a s=>j<n/\(∃ o:List Nat,o.length=n/\vl o=nv x*nv y/\(∀ m v,o[m]? = some v->(m<j->v<=50000)/\(m=j->v<=56000)/\(j<m->v<10))/\s=σ.set B (some (.obj (dgA o))))/\(a 5 = .msl B 0 n n/\a 8 = .int .i64 j)) (fun j=>j) (n-1) ⟨by omega,⟨o,hol,hv,hO,rfl⟩,?_⟩ ?_
  ·simp (disch:=first|assumption|omega|(simp only [List.length_append,List.length_cons,List.length_nil];omega)) only [go_sem,reduceCtorEq,Nat.reduceEqDiff,Nat.reduceAdd,Nat.reduceSub,Nat.reduceMul,Nat.reduceLeDiff,Int.reduceLT,Int.reduceLE,Int.reduceEq,↓reduceIte,Int.reduceNeg,Int.reduceAdd,Int.reduceSub,Int.reduceMul,true_imp_iff,forall_const,Nat.mul_one,Int.reduceToNat,Nat.reducePow,Int.reducePow,Bool.true_and,Bool.false_and,Bool.and_false,hf,eL]
  clear hO hv hb hf hol
  clear o
  rintro j a2 s2 ⟨hj,⟨o,hol,hv,hO,rfl⟩,hf⟩
  by_cases hj0:j=0
  ·subst hj0
   have g1:¬ (0:Int)<((0:Nat):Int):=by omega
   simp (disch:=first|assumption|omega|(simp only [List.length_append,List.length_cons,List.length_nil];omega)) only [go_sem,reduceCtorEq,Nat.reduceEqDiff,Nat.reduceAdd,Nat.reduceSub,Nat.reduceMul,Nat.reduceLeDiff,Int.reduceLT,Int.reduceLE,Int.reduceEq,↓reduceIte,Int.reduceNeg,Int.reduceAdd,Int.reduceSub,Int.reduceMul,true_imp_iff,forall_const,Nat.mul_one,Int.reduceToNat,Nat.reducePow,Int.reducePow,Bool.true_and,Bool.false_and,Bool.and_false,hf,g1]
   obtain ⟨d0,o',rfl⟩:∃ d0 o',o=d0::o':=by
    cases o with
    | nil=>simp at hol;omega
    | cons d o'=>exact ⟨d,o',rfl⟩
   have hd:∀ d∈d0::o',d<10:=by
    intro d hd
    obtain ⟨m,hm⟩:=mem_at hd
    by_cases hm0:m=0
    ·subst hm0
     simp only [List.getElem?_cons_zero,Option.some.injEq] at hm
     subst hm
     rw [List.length_cons] at hol
     exact vl_head (l:=o') (by rw [hv,hol];exact hpg)
    ·exact (hO m d hm).2.2 (by omega)
   obtain ⟨z1,z2⟩:=nv_vl _ hd
   generalize d0::o'=o at *
   have htk:∀ k d,o[k]? = some d->((o.map fun d=>UInt8.ofNat (48+d)).take k) ++ [UInt8.ofNat (48+d)]=(o.map fun d=>UInt8.ofNat (48+d)).take (k+1):=by
    intro k d hk
    rw [List.take_add_one,List.getElem?_map,hk]
    rfl
   refine wp_loop_on (fun (k:Nat) a s=>k<=n/\s=σ.set B (some (.obj (dgA o)))/\(a 9 = .str ((o.map fun d=>UInt8.ofNat (48+d)).take k)/\a 79 = .msl B 0 n n/\a 80 = .int .i64 n/\a 81 = .int .i64 k)) (fun k=>n-k) 0 ⟨Nat.zero_le _,rfl,?_⟩ ?_
   ·simp (disch:=first|assumption|omega|(simp only [List.length_append,List.length_cons,List.length_nil];omega)) only [go_sem,reduceCtorEq,Nat.reduceEqDiff,Nat.reduceAdd,Nat.reduceSub,Nat.reduceMul,Nat.reduceLeDiff,Int.reduceLT,Int.reduceLE,Int.reduceEq,↓reduceIte,Int.reduceNeg,Int.reduceAdd,Int.reduceSub,Int.reduceMul,true_imp_iff,forall_const,Nat.mul_one,Int.reduceToNat,Nat.reducePow,Int.reducePow,Bool.true_and,Bool.false_and,Bool.and_false,hf]
   clear hf
   rintro k a3 s3 ⟨hk,rfl,hf⟩
   by_cases hkn:k<n
   ·have hkn':(k:Int)<n:=by omega
    obtain ⟨d,hd2⟩:=at_some (show k<o.length by omega)
    have hd10:=hd d (List.mem_of_getElem? hd2)
    have hgt:=dgA_get hd2
    have hl2:k+1<=(dgA o).length:=by rw [dgA_len];omega
    have htk2:=htk k d hd2
    have hlt:((o.map fun d=>UInt8.ofNat (48+d)).take k).length=k:=by rw [List.length_take,List.length_map];omega
    obtain ⟨T,hT⟩:∃ T,(o.map fun d=>UInt8.ofNat (48+d)).take k=T:=⟨_,rfl⟩
    rw [hT] at hf htk2 hlt
    have e4:(48+((d:Nat):Int)).toNat=48+d:=by omega
    have e5:binS .add T [UInt8.ofNat (48+d)]=some (.str (T ++ [UInt8.ofNat (48+d)])):=binS_add (by simp;omega)
    rw [htk2] at e5
    simp (disch:=first|assumption|omega|(simp only [List.length_append,List.length_cons,List.length_nil];omega)) only [go_sem,reduceCtorEq,Nat.reduceEqDiff,Nat.reduceAdd,Nat.reduceSub,Nat.reduceMul,Nat.reduceLeDiff,Int.reduceLT,Int.reduceLE,Int.reduceEq,↓reduceIte,Int.reduceNeg,Int.reduceAdd,Int.reduceSub,Int.reduceMul,true_imp_iff,forall_const,Nat.mul_one,Int.reduceToNat,Nat.reducePow,Int.reducePow,Bool.true_and,Bool.false_and,Bool.and_false,hf,hkn',hgt,hl2,e4,e5]
    refine ⟨k+1,by omega,by omega,rfl,?_⟩
    simp (disch:=first|assumption|omega|(simp only [List.length_append,List.length_cons,List.length_nil];omega)) only [go_sem,reduceCtorEq,Nat.reduceEqDiff,Nat.reduceAdd,Nat.reduceSub,Nat.reduceMul,Nat.reduceLeDiff,Int.reduceLT,Int.reduceLE,Int.reduceEq,↓reduceIte,Int.reduceNeg,Int.reduceAdd,Int.reduceSub,Int.reduceMul,true_imp_iff,forall_const,Nat.mul_one,Int.reduceToNat,Nat.reducePow,Int.reducePow,Bool.true_and,Bool.false_and,Bool.and_false,hf]
   ·have hkn':¬ (k:Int)<n:=by omega
    obtain rfl:k=n:=by omega
    rw [List.take_of_length_le (by rw [List.length_map];omega)] at hf
    simp (disch:=first|assumption|omega|(simp only [List.length_append,List.length_cons,List.length_nil];omega)) only [go_sem,reduceCtorEq,Nat.reduceEqDiff,Nat.reduceAdd,Nat.reduceSub,Nat.reduceMul,Nat.reduceLeDiff,Int.reduceLT,Int.reduceLE,Int.reduceEq,↓reduceIte,Int.reduceNeg,Int.reduceAdd,Int.reduceSub,Int.reduceMul,true_imp_iff,forall_const,Nat.mul_one,Int.reduceToNat,Nat.reducePow,Int.reducePow,Bool.true_and,Bool.false_and,Bool.and_false,hf,hkn']
    exact retC_by (by repeat' (first|exact Drop.refl _|with_reducible refine Drop.off ?_ (by assumption))) (.refl _) ⟨rfl,_,rfl,z2,by rw [z1,hv],by rw [List.length_map,hol]⟩
  ·obtain ⟨m,hm⟩:∃ m,j=m+1:=⟨j-1,by omega⟩
   have g1:(0:Int)<j:=by omega
   have e1:(j:Int)-1=m:=by omega
   obtain ⟨p,hp⟩:=at_some (show m<o.length by omega)
   obtain ⟨q,hq⟩:=at_some (show j<o.length by omega)
   have hpb:=(hO m p hp).1 (by omega)
   have hqb:=(hO j q hq).2.1 rfl
   have hgp:=dgA_get hp
   have hgq:=dgA_get hq
   have hcv:=vl_carry hp (hm▸hq)
   obtain ⟨u,hu⟩:∃ u,q / 10=u:=⟨_,rfl⟩
   obtain ⟨w,hw⟩:∃ w,q % 10=w:=⟨_,rfl⟩
   have t1:((q:Nat):Int).tdiv 10=u:=by rw [<-hu];rfl
   have t2:((q:Nat):Int).tmod 10=w:=by rw [<-hw];rfl
   obtain ⟨P,hP⟩:∃ P,p+u=P:=⟨_,rfl⟩
   rw [hu,hw,hP,← hm] at hcv
   have t3:(p:Int)+u=P:=by omega
   have s1:=dgA_set (v:=P) (show m<o.length by omega)
   have hq2:(o.set m P)[j]? = some q:=by rw [List.getElem?_set_ne (by omega)];exact hq
   have hgq2:=dgA_get hq2
   have s2:=dgA_set (o:=o.set m P) (v:=w) (show j<(o.set m P).length by rw [List.length_set];omega)
   have l1:m+1<=(dgA o).length:=by rw [dgA_len];omega
   have l2:j+1<=(dgA o).length:=by rw [dgA_len];omega
   have l3:j+1<=(dgA (o.set m P)).length:=by rw [dgA_len,List.length_set];omega
   have hO2:∀ k v,((o.set m P).set j w)[k]? = some v->(k<m->v<=50000)/\(k=m->v<=56000)/\(m<k->v<10):=by
    intro k v hk
    by_cases k1:k=j
    ·subst k1
     rw [List.getElem?_set_self (by rw [List.length_set];omega)] at hk
     injection hk with hk
     omega
    ·rw [List.getElem?_set_ne (by omega)] at hk
     by_cases k2:k=m
     ·subst k2
      rw [List.getElem?_set_self (by omega)] at hk
      injection hk with hk
      omega
     ·rw [List.getElem?_set_ne (by omega)] at hk
      have:=hO k v hk
      omega
   simp (disch:=first|assumption|omega|(simp only [List.length_append,List.length_cons,List.length_nil];omega)) only [go_sem,reduceCtorEq,Nat.reduceEqDiff,Nat.reduceAdd,Nat.reduceSub,Nat.reduceMul,Nat.reduceLeDiff,Int.reduceLT,Int.reduceLE,Int.reduceEq,↓reduceIte,Int.reduceNeg,Int.reduceAdd,Int.reduceSub,Int.reduceMul,true_imp_iff,forall_const,Nat.mul_one,Int.reduceToNat,Nat.reducePow,Int.reducePow,Bool.true_and,Bool.false_and,Bool.and_false,hf,g1,e1,hgp,hgq,t1,t2,t3,s1,hgq2,s2,l1,l2,l3,ASt.set_set]
   refine ⟨m,by omega,by omega,⟨_,by simp [hol],hcv.trans hv,hO2,rfl⟩,?_⟩
   simp (disch:=first|assumption|omega|(simp only [List.length_append,List.length_cons,List.length_nil];omega)) only [go_sem,reduceCtorEq,Nat.reduceEqDiff,Nat.reduceAdd,Nat.reduceSub,Nat.reduceMul,Nat.reduceLeDiff,Int.reduceLT,Int.reduceLE,Int.reduceEq,↓reduceIte,Int.reduceNeg,Int.reduceAdd,Int.reduceSub,Int.reduceMul,true_imp_iff,forall_const,Nat.mul_one,Int.reduceToNat,Nat.reducePow,Int.reducePow,Bool.true_and,Bool.false_and,Bool.and_false,hf]
 ·obtain ⟨j,rfl⟩:∃ j,i=j+1:=⟨i-1,by omega⟩
  have e0:((j+1:Nat):Int)-1=j:=by omega
  rw [e0] at hf
  have g0:(0:Int)<=j:=by omega
  obtain ⟨c,hc⟩:∃ c,x[j]? = some c:=⟨_,List.getElem?_eq_getElem (by omega)⟩
  have hcd:=hx c (List.mem_of_getElem? hc)
  simp (disch:=first|assumption|omega|(simp only [List.length_append,List.length_cons,List.length_nil];omega)) only [go_sem,reduceCtorEq,Nat.reduceEqDiff,Nat.reduceAdd,Nat.reduceSub,Nat.reduceMul,Nat.reduceLeDiff,Int.reduceLT,Int.reduceLE,Int.reduceEq,↓reduceIte,Int.reduceNeg,Int.reduceAdd,Int.reduceSub,Int.reduceMul,true_imp_iff,forall_const,Nat.mul_one,Int.reduceToNat,Nat.reducePow,Int.reducePow,Bool.true_and,Bool.false_and,Bool.and_false,hf,g0]
  refine wp_loop_on (fun (k:Nat) a s=>k<=y.length/\(∃ o:List Nat,o.length=n/\vl o=nv (x.drop (j+1))*nv y+(c.toNat-48)*10 ^ (x.length-1-j)*nv (y.drop k)/\(∀ d∈o,d<=2000*(x.length-(j+1))+81*(y.length-k))/\s=σ.set B (some (.obj (dgA o))))/\(a 0 = .str x/\a 1 = .str y/\a 5 = .msl B 0 n n/\a 6 = .int .i64 j/\a 7 = .int .i64 ((k:Int)-1))) (fun k=>k) y.length ⟨Nat.le_refl _,⟨o,hol,?_,?_,rfl⟩,?_⟩ ?_
  ·rw [hv,List.drop_length];simp [nv]
  ·intro d hd;have:=hb d hd;omega
  ·simp (disch:=first|assumption|omega|(simp only [List.length_append,List.length_cons,List.length_nil];omega)) only [go_sem,reduceCtorEq,Nat.reduceEqDiff,Nat.reduceAdd,Nat.reduceSub,Nat.reduceMul,Nat.reduceLeDiff,Int.reduceLT,Int.reduceLE,Int.reduceEq,↓reduceIte,Int.reduceNeg,Int.reduceAdd,Int.reduceSub,Int.reduceMul,true_imp_iff,forall_const,Nat.mul_one,Int.reduceToNat,Nat.reducePow,Int.reducePow,Bool.true_and,Bool.false_and,Bool.and_false,hf]
  clear hv hb hf hol
  clear o
  rintro k a2 s2 ⟨hk,⟨o,hol,hv,hb,rfl⟩,hf⟩
  by_cases hk0:k=0
  ·subst hk0
   have g1:¬ (0:Int)<=((0:Nat):Int)-1:=by omega
   rw [times_row hc] at hv
   simp (disch:=first|assumption|omega|(simp only [List.length_append,List.length_cons,List.length_nil];omega)) only [go_sem,reduceCtorEq,Nat.reduceEqDiff,Nat.reduceAdd,Nat.reduceSub,Nat.reduceMul,Nat.reduceLeDiff,Int.reduceLT,Int.reduceLE,Int.reduceEq,↓reduceIte,Int.reduceNeg,Int.reduceAdd,Int.reduceSub,Int.reduceMul,true_imp_iff,forall_const,Nat.mul_one,Int.reduceToNat,Nat.reducePow,Int.reducePow,Bool.true_and,Bool.false_and,Bool.and_false,hf,g1]
   refine ⟨j,by omega,by omega,⟨o,hol,hv,?_,rfl⟩,?_⟩
   ·intro d hd;have:=hb d hd;omega
   ·simp (disch:=first|assumption|omega|(simp only [List.length_append,List.length_cons,List.length_nil];omega)) only [go_sem,reduceCtorEq,Nat.reduceEqDiff,Nat.reduceAdd,Nat.reduceSub,Nat.reduceMul,Nat.reduceLeDiff,Int.reduceLT,Int.reduceLE,Int.reduceEq,↓reduceIte,Int.reduceNeg,Int.reduceAdd,Int.reduceSub,Int.reduceMul,true_imp_iff,forall_const,Nat.mul_one,Int.reduceToNat,Nat.reducePow,Int.reducePow,Bool.true_and,Bool.false_and,Bool.and_false,hf]
  ·obtain ⟨m,rfl⟩:∃ m,k=m+1:=⟨k-1,by omega⟩
   have e1:((m+1:Nat):Int)-1=m:=by omega
   rw [e1] at hf
   have g1:(0:Int)<=m:=by omega
   obtain ⟨d,hd⟩:∃ d,y[m]? = some d:=⟨_,List.getElem?_eq_getElem (by omega)⟩
   have hdd:=hy d (List.mem_of_getElem? hd)
   obtain ⟨t,ht⟩:∃ t,j+m+1=t:=⟨_,rfl⟩
   obtain ⟨p,hp⟩:=at_some (show t<o.length by omega)
   have hpb:=hb p (List.mem_of_getElem? hp)
   have hst:=times_step hc hd (by omega) (ht▸hp) hv
   rw [ht] at hst
   have hgp:=dgA_get hp
   have hprod:(c.toNat-48)*(d.toNat-48)<=9*9:=Nat.mul_le_mul (by omega) (by omega)
   obtain ⟨C,hC⟩:∃ C,c.toNat-48=C:=⟨_,rfl⟩
   obtain ⟨D,hD⟩:∃ D,d.toNat-48=D:=⟨_,rfl⟩
   have c1:(c.toNat:Int)-48=C:=by omega
   have c2:(d.toNat:Int)-48=D:=by omega
   rw [hC,hD] at hst hprod
   obtain ⟨q,hq⟩:∃ q,C*D=q:=⟨_,rfl⟩
   have c3:(C:Int)*D=q:=by rw [<-hq];exact (Int.natCast_mul _ _).symm
   rw [hq] at hst hprod
   obtain ⟨P,hP⟩:∃ P,p+q=P:=⟨_,rfl⟩
   rw [hP] at hst
   have c4:(p:Int)+q=P:=by omega
   have c5:(j:Int)+m+1=t:=by omega
   have s1:=dgA_set (v:=P) (show t<o.length by omega)
   have l1:t+1<=(dgA o).length:=by rw [dgA_len];omega
   simp (disch:=first|assumption|omega|(simp only [List.length_append,List.length_cons,List.length_nil];omega)) only [go_sem,reduceCtorEq,Nat.reduceEqDiff,Nat.reduceAdd,Nat.reduceSub,Nat.reduceMul,Nat.reduceLeDiff,Int.reduceLT,Int.reduceLE,Int.reduceEq,↓reduceIte,Int.reduceNeg,Int.reduceAdd,Int.reduceSub,Int.reduceMul,true_imp_iff,forall_const,Nat.mul_one,Int.reduceToNat,Nat.reducePow,Int.reducePow,Bool.true_and,Bool.false_and,Bool.and_false,hf,g1,hc,hd,c1,c2,c3,c4,c5,hgp,s1,l1,ASt.set_set]
   refine ⟨m,by omega,by omega,⟨_,by rw [List.length_set,hol],by rw [hC];exact hst,?_,rfl⟩,?_⟩
   ·intro e he
    rcases List.mem_or_eq_of_mem_set he with he|rfl
    ·have:=hb e he;omega
    ·omega
   ·simp (disch:=first|assumption|omega|(simp only [List.length_append,List.length_cons,List.length_nil];omega)) only [go_sem,reduceCtorEq,Nat.reduceEqDiff,Nat.reduceAdd,Nat.reduceSub,Nat.reduceMul,Nat.reduceLeDiff,Int.reduceLT,Int.reduceLE,Int.reduceEq,↓reduceIte,Int.reduceNeg,Int.reduceAdd,Int.reduceSub,Int.reduceMul,true_imp_iff,forall_const,Nat.mul_one,Int.reduceToNat,Nat.reducePow,Int.reducePow,Bool.true_and,Bool.false_and,Bool.and_false,hf]
theorem mul_round {z:Nat} {N:Nat} (h:z*10 ^ 4=rndN N (10 ^ 4)):z=(N+5000) / 10000:=by
 unfold rndN at h
 rw [show (10:Nat) ^ 4=10000 by decide] at h
 split at h<;>omega
set_option maxHeartbeats 1000000 in
theorem rmul_ok (a b:Int) (ha:a.natAbs<=999999999999999999) (hb:b.natAbs<=999999999999999999):Pure Tryz.prog 86 [.int .i64 a,.int .i64 b] (resAV (mulR a b)):=by
 intro σ
 have hA:=rsize_ok a ha
 have hB:=rsize_ok b hb
 have dA:=rdigits_ok a.natAbs (by omega)
 have dB:=rdigits_ok b.natAbs (by omega)
 have lA:=dd_len 17 a.natAbs (by omega)
 have lB:=dd_len 17 b.natAbs (by omega)
 have pA:=List.length_pos_iff.2 (dd_len_pos a.natAbs)
 have hT:=times_ok (Lib.decDigits a.natAbs) (Lib.decDigits b.natAbs) (dd_all _).1 (dd_all _).1 pA (by omega) (by omega) σ
 rw [nv_dd,nv_dd] at hT
 unfold mulR sgnP
 obtain ⟨m,hm⟩:∃ m,(!(decide (a<0)==decide (b<0)))=m:=⟨_,rfl⟩
 rw [hm]
 generalize a.natAbs*b.natAbs=N at *
 generalize Lib.decDigits a.natAbs=X at *
 generalize Lib.decDigits b.natAbs=Y at *
 refine a86 (by simp) ?_
 simp (disch:=first|assumption|omega|(simp only [List.length_append,List.length_cons,List.length_nil];omega)) only [go_sem,reduceCtorEq,Nat.reduceEqDiff,Nat.reduceAdd,Nat.reduceSub,Nat.reduceMul,Nat.reduceLeDiff,Int.reduceLT,Int.reduceLE,Int.reduceEq,↓reduceIte,Int.reduceNeg,Int.reduceAdd,Int.reduceSub,Int.reduceMul,true_imp_iff,forall_const,Nat.mul_one,Int.reduceToNat,Nat.reducePow,Int.reducePow,Bool.true_and,Bool.false_and,Bool.and_false]
 refine hA.use ?_
 simp (disch:=first|assumption|omega|(simp only [List.length_append,List.length_cons,List.length_nil];omega)) only [go_sem,reduceCtorEq,Nat.reduceEqDiff,Nat.reduceAdd,Nat.reduceSub,Nat.reduceMul,Nat.reduceLeDiff,Int.reduceLT,Int.reduceLE,Int.reduceEq,↓reduceIte,Int.reduceNeg,Int.reduceAdd,Int.reduceSub,Int.reduceMul,true_imp_iff,forall_const,Nat.mul_one,Int.reduceToNat,Nat.reducePow,Int.reducePow,Bool.true_and,Bool.false_and,Bool.and_false]
 refine dA.use ?_
 simp (disch:=first|assumption|omega|(simp only [List.length_append,List.length_cons,List.length_nil];omega)) only [go_sem,reduceCtorEq,Nat.reduceEqDiff,Nat.reduceAdd,Nat.reduceSub,Nat.reduceMul,Nat.reduceLeDiff,Int.reduceLT,Int.reduceLE,Int.reduceEq,↓reduceIte,Int.reduceNeg,Int.reduceAdd,Int.reduceSub,Int.reduceMul,true_imp_iff,forall_const,Nat.mul_one,Int.reduceToNat,Nat.reducePow,Int.reducePow,Bool.true_and,Bool.false_and,Bool.and_false]
 refine hB.use ?_
 simp (disch:=first|assumption|omega|(simp only [List.length_append,List.length_cons,List.length_nil];omega)) only [go_sem,reduceCtorEq,Nat.reduceEqDiff,Nat.reduceAdd,Nat.reduceSub,Nat.reduceMul,Nat.reduceLeDiff,Int.reduceLT,Int.reduceLE,Int.reduceEq,↓reduceIte,Int.reduceNeg,Int.reduceAdd,Int.reduceSub,Int.reduceMul,true_imp_iff,forall_const,Nat.mul_one,Int.reduceToNat,Nat.reducePow,Int.reducePow,Bool.true_and,Bool.false_and,Bool.and_false]
 refine dB.use ?_
 simp (disch:=first|assumption|omega|(simp only [List.length_append,List.length_cons,List.length_nil];omega)) only [go_sem,reduceCtorEq,Nat.reduceEqDiff,Nat.reduceAdd,Nat.reduceSub,Nat.reduceMul,Nat.reduceLeDiff,Int.reduceLT,Int.reduceLE,Int.reduceEq,↓reduceIte,Int.reduceNeg,Int.reduceAdd,Int.reduceSub,Int.reduceMul,true_imp_iff,forall_const,Nat.mul_one,Int.reduceToNat,Nat.reducePow,Int.reducePow,Bool.true_and,Bool.false_and,Bool.and_false]
 refine hT.mono ?_
 rintro v σ' ⟨rfl,z,rfl,hz,hzv,hzl⟩
 have hC:=rcut_ok z 4 (by omega) (by omega)
 obtain ⟨k1,k2⟩:=cut_law hz (n:=4) (by omega)
 have hl:=cutD_len z 4
 have hS:=strip_ok (cutD z 4) (by omega)
 have hV:=value_ok m (stripP (cutD z 4)) (allD_strip k1) (by have:=(List.dropWhile_sublist (p:=(· == (48:UInt8))) (l:=cutD z 4)).length_le;unfold stripP;omega)
 have hr:valP m (stripP (cutD z 4))=madeP m ((N+5000) / 10000):=by
  unfold valP
  rw [nv_strip,mul_round k2,hzv]
 rw [hr] at hV
 have e4:((4:Nat):Int)=4:=rfl
 rw [e4] at hC
 generalize madeP m ((N+5000) / 10000)=R at *
 simp only [resAV] at hV ⊢
 simp (disch:=first|assumption|omega|(simp only [List.length_append,List.length_cons,List.length_nil];omega)) only [go_sem,reduceCtorEq,Nat.reduceEqDiff,Nat.reduceAdd,Nat.reduceSub,Nat.reduceMul,Nat.reduceLeDiff,Int.reduceLT,Int.reduceLE,Int.reduceEq,↓reduceIte,Int.reduceNeg,Int.reduceAdd,Int.reduceSub,Int.reduceMul,true_imp_iff,forall_const,Nat.mul_one,Int.reduceToNat,Nat.reducePow,Int.reducePow,Bool.true_and,Bool.false_and,Bool.and_false]
 refine hC.use ?_
 simp (disch:=first|assumption|omega|(simp only [List.length_append,List.length_cons,List.length_nil];omega)) only [go_sem,reduceCtorEq,Nat.reduceEqDiff,Nat.reduceAdd,Nat.reduceSub,Nat.reduceMul,Nat.reduceLeDiff,Int.reduceLT,Int.reduceLE,Int.reduceEq,↓reduceIte,Int.reduceNeg,Int.reduceAdd,Int.reduceSub,Int.reduceMul,true_imp_iff,forall_const,Nat.mul_one,Int.reduceToNat,Nat.reducePow,Int.reducePow,Bool.true_and,Bool.false_and,Bool.and_false]
 refine hS.use ?_
 simp (disch:=first|assumption|omega|(simp only [List.length_append,List.length_cons,List.length_nil];omega)) only [go_sem,reduceCtorEq,Nat.reduceEqDiff,Nat.reduceAdd,Nat.reduceSub,Nat.reduceMul,Nat.reduceLeDiff,Int.reduceLT,Int.reduceLE,Int.reduceEq,↓reduceIte,Int.reduceNeg,Int.reduceAdd,Int.reduceSub,Int.reduceMul,true_imp_iff,forall_const,Nat.mul_one,Int.reduceToNat,Nat.reducePow,Int.reducePow,Bool.true_and,Bool.false_and,Bool.and_false,hm]
 refine hV.use ?_
 simp (disch:=first|assumption|omega|(simp only [List.length_append,List.length_cons,List.length_nil];omega)) only [go_sem,reduceCtorEq,Nat.reduceEqDiff,Nat.reduceAdd,Nat.reduceSub,Nat.reduceMul,Nat.reduceLeDiff,Int.reduceLT,Int.reduceLE,Int.reduceEq,↓reduceIte,Int.reduceNeg,Int.reduceAdd,Int.reduceSub,Int.reduceMul,true_imp_iff,forall_const,Nat.mul_one,Int.reduceToNat,Nat.reducePow,Int.reducePow,Bool.true_and,Bool.false_and,Bool.and_false]
 exact retC_by (by repeat' (first|exact Drop.refl _|with_reducible refine Drop.off ?_ (by assumption))) (.refl _) ⟨rfl,rfl⟩
end Go.A
namespace Go.A
open Go.Proofs
def rootD (n:Nat):Nat:=rootP n 38 0
theorem rootP_step {n i r:Nat}:rootP n (i+1) r=rootP n i (if (r+2 ^ i)*(r+2 ^ i)<=n then r+2 ^ i else r):=rfl
theorem wide_le {x y:Nat}:(x / 18446744073709551616<y / 18446744073709551616\/x / 18446744073709551616=y / 18446744073709551616/\x % 18446744073709551616<=y % 18446744073709551616)↔x<=y:=by omega
theorem or_nat {x y:Nat} (hx:x<18446744073709551616) (hy:y<18446744073709551616):binI .or .u64 (x:Int) (y:Int)=some (.int .u64 ((x ||| y:Nat):Int)):=by
 have h:x ||| y<2 ^ 64:=Nat.or_lt_two_pow (n:=64) hx hy
 have e:(BitVec.ofInt 64 (x:Int) ||| BitVec.ofInt 64 (y:Int)).toNat=x ||| y:=by
  rw [BitVec.toNat_or,BitVec.ofInt_natCast,BitVec.ofInt_natCast,BitVec.toNat_ofNat,BitVec.toNat_ofNat,Nat.mod_eq_of_lt hx,Nat.mod_eq_of_lt hy]
 show some (AV.int .u64 (IntKind.u64.wrap ((BitVec.ofInt 64 (x:Int) ||| BitVec.ofInt 64 (y:Int)).toNat:Int)))=_
 rw [e,IntKind.wrap_u64]
 congr 2
 omega
theorem shr_nat (x:Nat):shI .shr .u64 (x:Int) 1=some (.int .u64 ((x / 2:Nat):Int)):=by
 show some (AV.int .u64 ((x:Int) / 2 ^ min 1 64))=_
 rfl
set_option maxHeartbeats 1000000 in
theorem sqrt_ok {a:Int} (h0:0<=a) (h1:a<=999999999999999999):Pure Tryz.prog 32 [.int .i64 a] (.tuple [.int .i64 (rootD (a.toNat*10000):Nat),.bool true]):=by
 intro σ
 have hM:=mul64_ok a.toNat 10000 (by omega) (by omega)
 obtain ⟨n,hn⟩:∃ n,a.toNat*10000=n:=⟨_,rfl⟩
 rw [hn] at hM ⊢
 have hnb:n<5000000000000000000000000:=by omega
 have ea:((a.toNat:Nat):Int)=a:=by omega
 have g0:¬ a<0:=by omega
 have ec:IntKind.u64.wrap a=((a.toNat:Nat):Int):=by rw [IntKind.wrap_u64];omega
 refine a32 (by simp) ?_
 simp (disch:=first|assumption|omega|(simp only [List.length_append,List.length_cons,List.length_nil];omega)) only [go_sem,reduceCtorEq,Nat.reduceEqDiff,Nat.reduceAdd,Nat.reduceSub,Nat.reduceMul,Nat.reduceLeDiff,Int.reduceLT,Int.reduceLE,Int.reduceEq,↓reduceIte,Int.reduceNeg,Int.reduceAdd,Int.reduceSub,Int.reduceMul,true_imp_iff,forall_const,Nat.mul_one,Int.reduceToNat,Nat.reducePow,Int.reducePow,Bool.true_and,Bool.false_and,Bool.and_false,g0,ec]
 refine hM.use ?_
 simp (disch:=first|assumption|omega|(simp only [List.length_append,List.length_cons,List.length_nil];omega)) only [go_sem,reduceCtorEq,Nat.reduceEqDiff,Nat.reduceAdd,Nat.reduceSub,Nat.reduceMul,Nat.reduceLeDiff,Int.reduceLT,Int.reduceLE,Int.reduceEq,↓reduceIte,Int.reduceNeg,Int.reduceAdd,Int.reduceSub,Int.reduceMul,true_imp_iff,forall_const,Nat.mul_one,Int.reduceToNat,Nat.reducePow,Int.reducePow,Bool.true_and,Bool.false_and,Bool.and_false]
 obtain ⟨H,hH⟩:∃ H,n / 18446744073709551616=H:=⟨_,rfl⟩
 obtain ⟨L,hL⟩:∃ L,n % 18446744073709551616=L:=⟨_,rfl⟩
 rw [hH,hL]
 refine wp_loop_on (fun (j:Nat) a1 s2=>j<=38/\(∃ r B:Nat,B=2 ^ (38-j) / 2/\r<2 ^ 38/\2 ^ (38-j) ∣ r/\rootP n (38-j) r=rootD n/\(a1 6 = .int .u64 r/\a1 7 = .int .u64 B))/\(a1 4 = .int .u64 H/\a1 5 = .int .u64 L)/\s2=σ) (fun j=>38-j) 0 ⟨Nat.zero_le _,⟨0,137438953472,by decide,by decide,Nat.dvd_zero _,rfl,?_⟩,?_,rfl⟩ ?_
 ·simp (disch:=first|assumption|omega|(simp only [List.length_append,List.length_cons,List.length_nil];omega)) only [go_sem,reduceCtorEq,Nat.reduceEqDiff,Nat.reduceAdd,Nat.reduceSub,Nat.reduceMul,Nat.reduceLeDiff,Int.reduceLT,Int.reduceLE,Int.reduceEq,↓reduceIte,Int.reduceNeg,Int.reduceAdd,Int.reduceSub,Int.reduceMul,true_imp_iff,forall_const,Nat.mul_one,Int.reduceToNat,Nat.reducePow,Int.reducePow,Bool.true_and,Bool.false_and,Bool.and_false]
 ·simp (disch:=first|assumption|omega|(simp only [List.length_append,List.length_cons,List.length_nil];omega)) only [go_sem,reduceCtorEq,Nat.reduceEqDiff,Nat.reduceAdd,Nat.reduceSub,Nat.reduceMul,Nat.reduceLeDiff,Int.reduceLT,Int.reduceLE,Int.reduceEq,↓reduceIte,Int.reduceNeg,Int.reduceAdd,Int.reduceSub,Int.reduceMul,true_imp_iff,forall_const,Nat.mul_one,Int.reduceToNat,Nat.reducePow,Int.reducePow,Bool.true_and,Bool.false_and,Bool.and_false]
 rintro j a1 s2 ⟨hj,⟨r,B,hB,hr,hd,hroot,h67⟩,hf,rfl⟩
 by_cases hlt:j<38
 ·obtain ⟨i,hi⟩:∃ i,38-j=i+1:=⟨37-j,by omega⟩
  have hi37:i<=37:=by omega
  rw [hi] at hd hroot hB
  rw [Nat.pow_succ,Nat.mul_div_cancel _ (by omega)] at hB
  have hBp:0<2 ^ i:=Nat.pow_pos (by omega)
  have hB37:2 ^ i<=2 ^ 37:=Nat.pow_le_pow_right (by omega) hi37
  have hor:=or_bit hd
  rw [rootP_step] at hroot
  have hR38:r+2 ^ i<2 ^ 38:=by
   obtain ⟨q,hq⟩:=hd
   have e38:2 ^ 38=2 ^ (i+1)*2 ^ (37-i):=by rw [<-Nat.pow_add];congr 1;omega
   have hlt2:q<2 ^ (37-i):=by
    refine Nat.lt_of_not_le fun hge=>?_
    have:=Nat.mul_le_mul_left (2 ^ (i+1)) hge
    omega
   have h3:2 ^ (i+1)*(q+1)<=2 ^ (i+1)*2 ^ (37-i):=Nat.mul_le_mul_left _ hlt2
   rw [<-e38,Nat.mul_succ,← hq,Nat.pow_succ] at h3
   omega
  have hd1:2 ^ i ∣ r:=Nat.dvd_trans ⟨2,by rw [Nat.pow_succ]⟩ hd
  have hd2:2 ^ i ∣ r+2 ^ i:=Nat.dvd_add hd1 (Nat.dvd_refl _)
  have hi2:38-(j+1)=i:=by omega
  have hB2:B / 2=2 ^ (38-(j+1)) / 2:=by rw [hi2,hB]
  have hsh:=shr_nat B
  have ho:=or_nat (x:=r) (y:=B) (by omega) (by omega)
  rw [hB,hor,← hB] at ho
  rw [<-hB] at hroot hR38 hBp hB37
  have hBB:2 ^ i=B:=hB.symm
  have hM2:=mul64_ok (r+B) (r+B) (by omega) (by omega)
  have hw:=wide_le (x:=(r+B)*(r+B)) (y:=n)
  rw [hH,hL] at hw
  obtain ⟨R,hR⟩:∃ R,r+B=R:=⟨_,rfl⟩
  obtain ⟨C,hC⟩:∃ C,B / 2=C:=⟨_,rfl⟩
  rw [hR] at ho hM2 hw hroot hR38
  rw [hC] at hsh hB2
  rw [hBB,hR] at hd2
  have gB:(0:Int)<B:=by omega
  generalize R*R / 18446744073709551616=h at *
  generalize R*R % 18446744073709551616=l at *
  simp (disch:=first|assumption|omega|(simp only [List.length_append,List.length_cons,List.length_nil];omega)) only [go_sem,reduceCtorEq,Nat.reduceEqDiff,Nat.reduceAdd,Nat.reduceSub,Nat.reduceMul,Nat.reduceLeDiff,Int.reduceLT,Int.reduceLE,Int.reduceEq,↓reduceIte,Int.reduceNeg,Int.reduceAdd,Int.reduceSub,Int.reduceMul,true_imp_iff,forall_const,Nat.mul_one,Int.reduceToNat,Nat.reducePow,Int.reducePow,Bool.true_and,Bool.false_and,Bool.and_false,hf,h67,gB,ho]
  refine hM2.use ?_
  by_cases c1:h<H
  ·have c1':(h:Int)<H:=by omega
   rw [if_pos (hw.1 (.inl c1))] at hroot
   simp (disch:=first|assumption|omega|(simp only [List.length_append,List.length_cons,List.length_nil];omega)) only [go_sem,reduceCtorEq,Nat.reduceEqDiff,Nat.reduceAdd,Nat.reduceSub,Nat.reduceMul,Nat.reduceLeDiff,Int.reduceLT,Int.reduceLE,Int.reduceEq,↓reduceIte,Int.reduceNeg,Int.reduceAdd,Int.reduceSub,Int.reduceMul,true_imp_iff,forall_const,Nat.mul_one,Int.reduceToNat,Nat.reducePow,Int.reducePow,Bool.true_and,Bool.false_and,Bool.and_false,hf,h67,c1',hsh]
   exact ⟨j+1,by omega,by omega,R,C,hB2,by omega,by rw [hi2,hBB];exact hd2,by rw [hi2];exact hroot,rfl,rfl⟩
  have c1':¬ (h:Int)<H:=by omega
  by_cases c2:h=H
  ·have c2':(h:Int)=H:=by omega
   by_cases c3:l<=L
   ·have c3':(l:Int)<=L:=by omega
    rw [if_pos (hw.1 (.inr ⟨c2,c3⟩))] at hroot
    simp (disch:=first|assumption|omega|(simp only [List.length_append,List.length_cons,List.length_nil];omega)) only [go_sem,reduceCtorEq,Nat.reduceEqDiff,Nat.reduceAdd,Nat.reduceSub,Nat.reduceMul,Nat.reduceLeDiff,Int.reduceLT,Int.reduceLE,Int.reduceEq,↓reduceIte,Int.reduceNeg,Int.reduceAdd,Int.reduceSub,Int.reduceMul,true_imp_iff,forall_const,Nat.mul_one,Int.reduceToNat,Nat.reducePow,Int.reducePow,Bool.true_and,Bool.false_and,Bool.and_false,hf,h67,c1',c2',c3',hsh]
    exact ⟨j+1,by omega,by omega,R,C,hB2,by omega,by rw [hi2,hBB];exact hd2,by rw [hi2];exact hroot,rfl,rfl⟩
   ·have c3':¬ (l:Int)<=L:=by omega
    rw [if_neg (fun hx=>by rcases hw.2 hx with h1|⟨_,h1⟩<;>contradiction)] at hroot
    simp (disch:=first|assumption|omega|(simp only [List.length_append,List.length_cons,List.length_nil];omega)) only [go_sem,reduceCtorEq,Nat.reduceEqDiff,Nat.reduceAdd,Nat.reduceSub,Nat.reduceMul,Nat.reduceLeDiff,Int.reduceLT,Int.reduceLE,Int.reduceEq,↓reduceIte,Int.reduceNeg,Int.reduceAdd,Int.reduceSub,Int.reduceMul,true_imp_iff,forall_const,Nat.mul_one,Int.reduceToNat,Nat.reducePow,Int.reducePow,Bool.true_and,Bool.false_and,Bool.and_false,hf,h67,c1',c2',c3',hsh]
    exact ⟨j+1,by omega,by omega,r,C,hB2,by omega,by rw [hi2];exact hd1,by rw [hi2];exact hroot,rfl,rfl⟩
  ·have c2':¬ (h:Int)=H:=by omega
   rw [if_neg (fun hx=>by rcases hw.2 hx with h1|⟨h1,_⟩<;>contradiction)] at hroot
   simp (disch:=first|assumption|omega|(simp only [List.length_append,List.length_cons,List.length_nil];omega)) only [go_sem,reduceCtorEq,Nat.reduceEqDiff,Nat.reduceAdd,Nat.reduceSub,Nat.reduceMul,Nat.reduceLeDiff,Int.reduceLT,Int.reduceLE,Int.reduceEq,↓reduceIte,Int.reduceNeg,Int.reduceAdd,Int.reduceSub,Int.reduceMul,true_imp_iff,forall_const,Nat.mul_one,Int.reduceToNat,Nat.reducePow,Int.reducePow,Bool.true_and,Bool.false_and,Bool.and_false,hf,h67,c1',c2',hsh]
   exact ⟨j+1,by omega,by omega,r,C,hB2,by omega,by rw [hi2];exact hd1,by rw [hi2];exact hroot,rfl,rfl⟩
 ·have hj38:38-j=0:=by omega
  rw [hj38] at hroot hB
  have hr0:rootP n 0 r=r:=rfl
  rw [hr0] at hroot
  have hB0:B=0:=by rw [hB]
  subst hB0
  rw [<-hroot]
  have hw:IntKind.i64.wrap (r:Int)=r:=by rw [IntKind.wrap_i64];omega
  simp (disch:=first|assumption|omega|(simp only [List.length_append,List.length_cons,List.length_nil];omega)) only [go_sem,reduceCtorEq,Nat.reduceEqDiff,Nat.reduceAdd,Nat.reduceSub,Nat.reduceMul,Nat.reduceLeDiff,Int.reduceLT,Int.reduceLE,Int.reduceEq,↓reduceIte,Int.reduceNeg,Int.reduceAdd,Int.reduceSub,Int.reduceMul,true_imp_iff,forall_const,Nat.mul_one,Int.reduceToNat,Nat.reducePow,Int.reducePow,Bool.true_and,Bool.false_and,Bool.and_false,hf,h67,hw]
  exact retC_by (by repeat' (first|exact Drop.refl _|with_reducible refine Drop.off ?_ (by assumption))) (.refl _) ⟨rfl,rfl⟩
end Go.A
namespace Go.A
open Go.Proofs
/-! 94: tabular/tabularref01.Div -/
def c94_17:ACode := .seq (.seq (.ops [ oq 30 (.mv (.t 7)),oq 31 (.mv (.t 6)),oq 32 (.bin .geq (.t 30) (.t 31))]) (.cond (.t 32) .skip (.exit 2))) (.block 3 (.seq (.ops [ oq 33 (.mv (.t 7)),oq 34 (.mv (.t 6)),oq 35 (.bin .sub (.t 33) (.t 34)),oq 7 (.mv (.t 35))]) (.ops [ oq 36 (.mv (.t 11)),oq 37 (.bin .add (.t 36) (.v (.int .u64 1))),oq 11 (.mv (.t 37))])))
def c94_29:ACode := .seq (.ops [ oq 21 (.bin .lss (.t 20) (.t 19))]) (.seq (.cond (.t 21) .skip (.exit 0)) (.seq (.block 1 (.seq (.ops [ oq 22 (.ia 1 (.t 18) (.t 20)),oq 23 (.ld none (.t 22)),oq 10 (.mv (.t 23))]) (.seq (.ops [ oq 24 (.mv (.t 7)),oq 25 (.bin .mul (.v (.int .u64 10)) (.t 24)),oq 26 (.mv (.t 10)),oq 27 (.conv .u64 (.t 26)),oq 28 (.bin .add (.t 25) (.t 27)),oq 29 (.bin .sub (.t 28) (.v (.int .u64 48))),oq 7 (.mv (.t 29))]) (.seq (.ops [ oq 11 (.mv (.v (.int .u64 0)))]) (.seq (.block 2 (.loop c94_17)) (.ops [ oq 38 (.mv (.t 8)),oq 39 (.mv (.t 11)),oq 40 (.bin .add (.v (.int .u64 48)) (.t 39)),oq 41 (.conv .u8 (.t 40)),oq 42 (.bsl 1 [(.t 41)]),oq 43 (.b2s (.t 42)),oq 44 (.bin .add (.t 38) (.t 43)),oq 8 (.mv (.t 44))])))))) (.ops [ oq 45 (.bin .add (.t 20) (.v (.int .i64 1))),oq 20 (.mv (.t 45))])))
def c94_44:ACode := .seq (.ops [ oq 4 (.mv (.v (.int .i64 0))),oq 5 (.mv (.v (.bool false)))]) (.seq (.ops [ oq 12 (.mv (.t 1)),oe 13 (.call 41 [(.t 12)]),oq 6 (.mv (.t 13))]) (.seq (.ops [ oq 7 (.mv (.v (.int .u64 0)))]) (.seq (.ops [ oq 8 (.mv (.v (.str [])))]) (.seq (.seq (.ops [ oq 14 (.mv (.t 0)),oe 15 (.call 41 [(.t 14)]),oe 16 (.call 78 [(.t 15)]),oq 17 (.bin .add (.t 16) (.v (.str [48,48,48,48]))),oe 18 (.s2b (.t 17)),oq 19 (.len (.t 18)),oq 20 (.mv (.v (.int .i64 0)))]) (.block 0 (.loop c94_29))) (.seq (.seq (.ops [ oq 46 (.mv (.t 7)),oq 47 (.mv (.t 6)),oq 48 (.mv (.t 7)),oq 49 (.bin .sub (.t 47) (.t 48)),oq 50 (.bin .geq (.t 46) (.t 49))]) (.cond (.t 50) (.ops [ oq 51 (.mv (.t 8)),oe 52 (.call 93 [(.t 51)]),oq 8 (.mv (.t 52))]) .skip)) (.seq (.ops [ oq 53 (.mv (.t 0)),oq 54 (.bin .lss (.t 53) (.v (.int .i64 0))),oq 55 (.mv (.t 1)),oq 56 (.bin .lss (.t 55) (.v (.int .i64 0))),oq 57 (.eq .b true (.t 54) (.t 56)),oq 58 (.mv (.t 8)),oe 59 (.call 81 [(.t 58)]),oe 60 (.call 79 [(.t 57),(.t 59)]),oq 61 (.ext 0 (.t 60)),oq 62 (.ext 1 (.t 60)),oq 4 (.mv (.t 61)),oq 5 (.mv (.t 62))]) .ret))))))
@[go_sem] def c94_17_wp:=wp_of c94_17.eq_1
@[go_sem] def c94_29_wp:=wp_of c94_29.eq_1
@[go_sem] def c94_44_wp:=wp_of c94_44.eq_1
def c94:AFn:=⟨63,[.t 4,.t 5],c94_44⟩
theorem c94_ok:compF Tryz.prog Tryz.f94=some c94:=by kernel_rfl
theorem a94 {args:List AV} {σ:ASt} {R:AV->ASt->Prop} (hl:args.length<=63) (h:c94_44.wp Tryz.prog (RetQ [.t 4,.t 5] R) (init args) σ):ACalls Tryz.prog 94 args σ R:=acalls_of Tryz.func94 c94_ok hl h
end Go.A
namespace Go.A
open Go.Proofs
theorem byte_get {l:List UInt8} {i:Nat} {c:UInt8} (h:l[i]? = some c):(bytesAV l)[i]? = some (.int .u8 (c.toNat:Int)):=by unfold bytesAV;rw [List.getElem?_map,h];rfl
theorem dig_byte {q:Nat} (h:q<=9):(UInt8.ofNat (48+q)).toNat=48+q:=dig_nat (by omega)
theorem div_uni {R q d r:Nat} (h:R=q*d+r) (hr:r<d):R / d=q/\R % d=r:=by
 have e:R=r+d*q:=by rw [h,Nat.mul_comm];omega
 rw [e]
 exact ⟨by rw [Nat.add_mul_div_left _ _ (by omega),Nat.div_eq_of_lt hr];omega,by rw [Nat.add_mul_mod_self_left,Nat.mod_eq_of_lt hr]⟩
set_option maxHeartbeats 2000000 in
theorem rdiv_ok (a b:Int) (ha:a.natAbs<=999999999999999999) (hb:b.natAbs<=999999999999999999) (hb0:b≠0):Pure Tryz.prog 94 [.int .i64 a,.int .i64 b] (resAV (divR a b)):=by
 intro σ
 have hA:=rsize_ok a ha
 have hB:=rsize_ok b hb
 have dA:=rdigits_ok a.natAbs (by omega)
 have lA:=dd_len 17 a.natAbs (by omega)
 have nA:=nv_dd a.natAbs
 have aA:AllD (Lib.decDigits a.natAbs):=(dd_all _).1
 unfold divR sgnP
 obtain ⟨m,hm⟩:∃ m,(!(decide (a<0)==decide (b<0)))=m:=⟨_,rfl⟩
 rw [hm]
 obtain ⟨d,hd⟩:∃ d,b.natAbs=d:=⟨_,rfl⟩
 have hd0:0<d:=by omega
 rw [hd] at hB hb ⊢
 generalize Lib.decDigits a.natAbs=X at *
 have aS:AllD (X ++ [48,48,48,48]):=allD_app aA (allD_zeros 4)
 have nS:nv (X ++ [48,48,48,48])=a.natAbs*10000:=by
  have:nv [48,48,48,48]=0:=nv_zeros 4
  rw [nv_app,nA,this]
  rfl
 rw [<-nS]
 have e0:binS .add X [48,48,48,48]=some (.str (X ++ [48,48,48,48])):=binS_add (by simp;omega)
 have lS:(X ++ [48,48,48,48]).length<=22:=by simp;omega
 generalize X ++ [48,48,48,48]=S at *
 clear nS nA
 refine a94 (by simp) ?_
 simp (disch:=first|assumption|omega|(simp only [List.length_append,List.length_cons,List.length_nil];omega)) only [go_sem,reduceCtorEq,Nat.reduceEqDiff,Nat.reduceAdd,Nat.reduceSub,Nat.reduceMul,Nat.reduceLeDiff,Int.reduceLT,Int.reduceLE,Int.reduceEq,↓reduceIte,Int.reduceNeg,Int.reduceAdd,Int.reduceSub,Int.reduceMul,true_imp_iff,forall_const,Nat.mul_one,Int.reduceToNat,Nat.reducePow,Int.reducePow,Bool.true_and,Bool.false_and,Bool.and_false]
 refine hB.use ?_
 simp (disch:=first|assumption|omega|(simp only [List.length_append,List.length_cons,List.length_nil];omega)) only [go_sem,reduceCtorEq,Nat.reduceEqDiff,Nat.reduceAdd,Nat.reduceSub,Nat.reduceMul,Nat.reduceLeDiff,Int.reduceLT,Int.reduceLE,Int.reduceEq,↓reduceIte,Int.reduceNeg,Int.reduceAdd,Int.reduceSub,Int.reduceMul,true_imp_iff,forall_const,Nat.mul_one,Int.reduceToNat,Nat.reducePow,Int.reducePow,Bool.true_and,Bool.false_and,Bool.and_false]
 refine hA.use ?_
 simp (disch:=first|assumption|omega|(simp only [List.length_append,List.length_cons,List.length_nil];omega)) only [go_sem,reduceCtorEq,Nat.reduceEqDiff,Nat.reduceAdd,Nat.reduceSub,Nat.reduceMul,Nat.reduceLeDiff,Int.reduceLT,Int.reduceLE,Int.reduceEq,↓reduceIte,Int.reduceNeg,Int.reduceAdd,Int.reduceSub,Int.reduceMul,true_imp_iff,forall_const,Nat.mul_one,Int.reduceToNat,Nat.reducePow,Int.reducePow,Bool.true_and,Bool.false_and,Bool.and_false]
 refine dA.use ?_
 simp (disch:=first|assumption|omega|(simp only [List.length_append,List.length_cons,List.length_nil];omega)) only [go_sem,reduceCtorEq,Nat.reduceEqDiff,Nat.reduceAdd,Nat.reduceSub,Nat.reduceMul,Nat.reduceLeDiff,Int.reduceLT,Int.reduceLE,Int.reduceEq,↓reduceIte,Int.reduceNeg,Int.reduceAdd,Int.reduceSub,Int.reduceMul,true_imp_iff,forall_const,Nat.mul_one,Int.reduceToNat,Nat.reducePow,Int.reducePow,Bool.true_and,Bool.false_and,Bool.and_false,e0]
 refine s2b_shr ?_
 simp (disch:=first|assumption|omega|(simp only [List.length_append,List.length_cons,List.length_nil];omega)) only [go_sem,reduceCtorEq,Nat.reduceEqDiff,Nat.reduceAdd,Nat.reduceSub,Nat.reduceMul,Nat.reduceLeDiff,Int.reduceLT,Int.reduceLE,Int.reduceEq,↓reduceIte,Int.reduceNeg,Int.reduceAdd,Int.reduceSub,Int.reduceMul,true_imp_iff,forall_const,Nat.mul_one,Int.reduceToNat,Nat.reducePow,Int.reducePow,Bool.true_and,Bool.false_and,Bool.and_false]
 have hlen:(bytesAV S).length=S.length:=List.length_map _
 refine wp_loop_on (fun (i:Nat) a1 s=>i<=S.length/\(∃ (r:Nat) (out:List UInt8),r=nv (S.take i) % d/\nv out=nv (S.take i) / d/\AllD out/\out.length=i/\(a1 7 = .int .u64 r/\a1 8 = .str out))/\(a1 0 = .int .i64 a/\a1 1 = .int .i64 b/\a1 6 = .int .u64 d/\a1 18 = .sl .shr (bytesAV S)/\a1 19 = .int .i64 S.length/\a1 20 = .int .i64 i)/\s=σ) (fun i=>S.length-i) 0 ⟨Nat.zero_le _,⟨0,[],by simp [nv],by simp [nv],(fun c h=>by cases h),rfl,?_⟩,?_,rfl⟩ ?_
 ·simp (disch:=first|assumption|omega|(simp only [List.length_append,List.length_cons,List.length_nil];omega)) only [go_sem,reduceCtorEq,Nat.reduceEqDiff,Nat.reduceAdd,Nat.reduceSub,Nat.reduceMul,Nat.reduceLeDiff,Int.reduceLT,Int.reduceLE,Int.reduceEq,↓reduceIte,Int.reduceNeg,Int.reduceAdd,Int.reduceSub,Int.reduceMul,true_imp_iff,forall_const,Nat.mul_one,Int.reduceToNat,Nat.reducePow,Int.reducePow,Bool.true_and,Bool.false_and,Bool.and_false]
 ·simp (disch:=first|assumption|omega|(simp only [List.length_append,List.length_cons,List.length_nil];omega)) only [go_sem,reduceCtorEq,Nat.reduceEqDiff,Nat.reduceAdd,Nat.reduceSub,Nat.reduceMul,Nat.reduceLeDiff,Int.reduceLT,Int.reduceLE,Int.reduceEq,↓reduceIte,Int.reduceNeg,Int.reduceAdd,Int.reduceSub,Int.reduceMul,true_imp_iff,forall_const,Nat.mul_one,Int.reduceToNat,Nat.reducePow,Int.reducePow,Bool.true_and,Bool.false_and,Bool.and_false]
 rintro i a1 s1 ⟨hi,⟨r,out,hr,hout,hoD,hol,hf7,hf8⟩,hf,rfl⟩
 have hrd:r<d:=by rw [hr];exact Nat.mod_lt _ hd0
 by_cases hlt:i<S.length
 ·have hlt':(i:Int)<S.length:=by omega
  obtain ⟨c,hc⟩:∃ c,S[i]? = some c:=⟨_,List.getElem?_eq_getElem hlt⟩
  have hcd:=aS c (List.mem_of_getElem? hc)
  have hgc:=byte_get hc
  obtain ⟨C,hC⟩:∃ C,c.toNat-48=C:=⟨_,rfl⟩
  have hsn:nv (S.take (i+1))=nv (S.take i)*10+C:=by
   rw [List.take_add_one,hc,Option.toList_some,nv_snoc,hC]
  obtain ⟨R,hR⟩:∃ R,r*10+C=R:=⟨_,rfl⟩
  have e1:10*(r:Int)+c.toNat-48=R:=by omega
  obtain ⟨z1,z2⟩:=div_step (v:=nv (S.take i)) (c:=C) hd0
  have h9:=div_digit (v:=nv (S.take i)) (c:=C) hd0 (by omega)
  rw [<-hsn,← hr,hR,← hout] at z1
  rw [<-hsn,← hr,hR] at z2
  rw [<-hr,hR] at h9
  have hRb:R<10000000000000000000:=by omega
  have e2:10*(r:Int)+c.toNat=R+48:=by omega
  have e3:(R:Int)+48-48=R:=by omega
  simp (disch:=first|assumption|omega|(simp only [List.length_append,List.length_cons,List.length_nil];omega)) only [go_sem,reduceCtorEq,Nat.reduceEqDiff,Nat.reduceAdd,Nat.reduceSub,Nat.reduceMul,Nat.reduceLeDiff,Int.reduceLT,Int.reduceLE,Int.reduceEq,↓reduceIte,Int.reduceNeg,Int.reduceAdd,Int.reduceSub,Int.reduceMul,true_imp_iff,forall_const,Nat.mul_one,Int.reduceToNat,Nat.reducePow,Int.reducePow,Bool.true_and,Bool.false_and,Bool.and_false,hf,hf7,hf8,hlt',hgc,hlen,e2,e3]
  refine wp_loop_on (fun (q:Nat) a2 s=>(∃ r2:Nat,R=q*d+r2/\(a2 7 = .int .u64 r2/\a2 11 = .int .u64 q))/\(a2 0 = .int .i64 a/\a2 1 = .int .i64 b/\a2 6 = .int .u64 d/\a2 8 = .str out/\a2 18 = .sl .shr (bytesAV S)/\a2 19 = .int .i64 S.length/\a2 20 = .int .i64 i)/\s=s1) (fun q=>R-q) 0 ⟨⟨R,by omega,?_⟩,?_,rfl⟩ ?_
  ·simp (disch:=first|assumption|omega|(simp only [List.length_append,List.length_cons,List.length_nil];omega)) only [go_sem,reduceCtorEq,Nat.reduceEqDiff,Nat.reduceAdd,Nat.reduceSub,Nat.reduceMul,Nat.reduceLeDiff,Int.reduceLT,Int.reduceLE,Int.reduceEq,↓reduceIte,Int.reduceNeg,Int.reduceAdd,Int.reduceSub,Int.reduceMul,true_imp_iff,forall_const,Nat.mul_one,Int.reduceToNat,Nat.reducePow,Int.reducePow,Bool.true_and,Bool.false_and,Bool.and_false,hf]
  ·simp (disch:=first|assumption|omega|(simp only [List.length_append,List.length_cons,List.length_nil];omega)) only [go_sem,reduceCtorEq,Nat.reduceEqDiff,Nat.reduceAdd,Nat.reduceSub,Nat.reduceMul,Nat.reduceLeDiff,Int.reduceLT,Int.reduceLE,Int.reduceEq,↓reduceIte,Int.reduceNeg,Int.reduceAdd,Int.reduceSub,Int.reduceMul,true_imp_iff,forall_const,Nat.mul_one,Int.reduceToNat,Nat.reducePow,Int.reducePow,Bool.true_and,Bool.false_and,Bool.and_false,hf,hf8]
  clear hf hf7 hf8
  rintro q a2 s2 ⟨⟨r2,hRq,hg7,hg11⟩,hf,rfl⟩
  have hqR:q<=R:=by
   have:=Nat.le_mul_of_pos_right q hd0
   omega
  by_cases hge:d<=r2
  ·have hge':(d:Int)<=r2:=by omega
   have e4:(r2:Int)-d=((r2-d:Nat):Int):=by omega
   have hR2:R=(q+1)*d+(r2-d):=by rw [Nat.succ_mul];omega
   have hq2:q+1<=R:=by
    have:=Nat.le_mul_of_pos_right (q+1) hd0
    omega
   simp (disch:=first|assumption|omega|(simp only [List.length_append,List.length_cons,List.length_nil];omega)) only [go_sem,reduceCtorEq,Nat.reduceEqDiff,Nat.reduceAdd,Nat.reduceSub,Nat.reduceMul,Nat.reduceLeDiff,Int.reduceLT,Int.reduceLE,Int.reduceEq,↓reduceIte,Int.reduceNeg,Int.reduceAdd,Int.reduceSub,Int.reduceMul,true_imp_iff,forall_const,Nat.mul_one,Int.reduceToNat,Nat.reducePow,Int.reducePow,Bool.true_and,Bool.false_and,Bool.and_false,hf,hg7,hg11,hge',e4]
   exact ⟨q+1,by omega,r2-d,hR2,rfl,rfl⟩
  ·have hge':¬ (d:Int)<=r2:=by omega
   obtain ⟨u1,u2⟩:=div_uni hRq (by omega)
   rw [u1] at z1 h9
   rw [u2] at z2
   have e4:(48+((q:Nat):Int)).toNat=48+q:=by omega
   have e5:binS .add out [UInt8.ofNat (48+q)]=some (.str (out ++ [UInt8.ofNat (48+q)])):=binS_add (by simp;omega)
   simp (disch:=first|assumption|omega|(simp only [List.length_append,List.length_cons,List.length_nil];omega)) only [go_sem,reduceCtorEq,Nat.reduceEqDiff,Nat.reduceAdd,Nat.reduceSub,Nat.reduceMul,Nat.reduceLeDiff,Int.reduceLT,Int.reduceLE,Int.reduceEq,↓reduceIte,Int.reduceNeg,Int.reduceAdd,Int.reduceSub,Int.reduceMul,true_imp_iff,forall_const,Nat.mul_one,Int.reduceToNat,Nat.reducePow,Int.reducePow,Bool.true_and,Bool.false_and,Bool.and_false,hf,hg7,hg11,hge',e4,e5]
   refine ⟨i+1,by omega,by omega,⟨r2,out ++ [UInt8.ofNat (48+q)],z2.symm,?_,?_,by simp [hol],rfl,rfl⟩,rfl⟩
   ·rw [nv_snoc,dig_byte h9,z1];omega
   ·refine allD_app hoD fun e he=>?_
    rw [List.mem_singleton.1 he,dig_byte h9];omega
 ·have hlt':¬ (i:Int)<S.length:=by omega
  rw [List.take_of_length_le (by omega)] at hr hout
  have hH:=half_up (v:=nv S) hd0
  rw [<-hr,← hout] at hH
  have key:∀ (F:AFr->ASt->Prop) (o2:List UInt8),True:=fun _ _=>trivial
  have fin:∀ (o2:List UInt8),AllD o2->o2.length<=100->nv o2=(2*nv S+d) / (2*d)->Pure Tryz.prog 81 [.str o2] (.str (stripP o2))/\Pure Tryz.prog 79 [.bool m,.str (stripP o2)] (resAV (madeP m ((2*nv S+d) / (2*d)))):=by
   intro o2 h1 h2 h3
   refine ⟨strip_ok o2 (by omega),?_⟩
   have hV:=value_ok m (stripP o2) (allD_strip h1) (by have:=(List.dropWhile_sublist (p:=(· == (48:UInt8))) (l:=o2)).length_le;unfold stripP;omega)
   have hr:valP m (stripP o2)=madeP m ((2*nv S+d) / (2*d)):=by
    unfold valP
    rw [nv_strip,h3]
   rw [hr] at hV
   exact hV
  generalize (2*nv S+d) / (2*d)=Q at *
  have e6:(d:Int)-r=((d-r:Nat):Int):=by omega
  by_cases hh:d-r<=r
  ·have hh':((d-r:Nat):Int)<=r:=by omega
   rw [if_pos hh] at hH
   have hI:=inc_ok out (by omega)
   obtain ⟨i1,i2⟩:=incP_law hoD
   have il:=inc_len out
   obtain ⟨f1,f2⟩:=fin (incP out) i1 (by omega) (by rw [i2,hH])
   generalize madeP m Q=W at *
   simp only [resAV] at f2 ⊢
   simp (disch:=first|assumption|omega|(simp only [List.length_append,List.length_cons,List.length_nil];omega)) only [go_sem,reduceCtorEq,Nat.reduceEqDiff,Nat.reduceAdd,Nat.reduceSub,Nat.reduceMul,Nat.reduceLeDiff,Int.reduceLT,Int.reduceLE,Int.reduceEq,↓reduceIte,Int.reduceNeg,Int.reduceAdd,Int.reduceSub,Int.reduceMul,true_imp_iff,forall_const,Nat.mul_one,Int.reduceToNat,Nat.reducePow,Int.reducePow,Bool.true_and,Bool.false_and,Bool.and_false,hf,hf7,hf8,hlt',e6,hh']
   refine hI.use ?_
   simp (disch:=first|assumption|omega|(simp only [List.length_append,List.length_cons,List.length_nil];omega)) only [go_sem,reduceCtorEq,Nat.reduceEqDiff,Nat.reduceAdd,Nat.reduceSub,Nat.reduceMul,Nat.reduceLeDiff,Int.reduceLT,Int.reduceLE,Int.reduceEq,↓reduceIte,Int.reduceNeg,Int.reduceAdd,Int.reduceSub,Int.reduceMul,true_imp_iff,forall_const,Nat.mul_one,Int.reduceToNat,Nat.reducePow,Int.reducePow,Bool.true_and,Bool.false_and,Bool.and_false,hf,hm]
   refine f1.use ?_
   simp (disch:=first|assumption|omega|(simp only [List.length_append,List.length_cons,List.length_nil];omega)) only [go_sem,reduceCtorEq,Nat.reduceEqDiff,Nat.reduceAdd,Nat.reduceSub,Nat.reduceMul,Nat.reduceLeDiff,Int.reduceLT,Int.reduceLE,Int.reduceEq,↓reduceIte,Int.reduceNeg,Int.reduceAdd,Int.reduceSub,Int.reduceMul,true_imp_iff,forall_const,Nat.mul_one,Int.reduceToNat,Nat.reducePow,Int.reducePow,Bool.true_and,Bool.false_and,Bool.and_false,hf,hm]
   refine f2.use ?_
   simp (disch:=first|assumption|omega|(simp only [List.length_append,List.length_cons,List.length_nil];omega)) only [go_sem,reduceCtorEq,Nat.reduceEqDiff,Nat.reduceAdd,Nat.reduceSub,Nat.reduceMul,Nat.reduceLeDiff,Int.reduceLT,Int.reduceLE,Int.reduceEq,↓reduceIte,Int.reduceNeg,Int.reduceAdd,Int.reduceSub,Int.reduceMul,true_imp_iff,forall_const,Nat.mul_one,Int.reduceToNat,Nat.reducePow,Int.reducePow,Bool.true_and,Bool.false_and,Bool.and_false]
   exact retC_by (by repeat' (first|exact Drop.refl _|with_reducible refine Drop.off ?_ (by assumption))) (.refl _) ⟨rfl,rfl⟩
  ·have hh':¬ ((d-r:Nat):Int)<=r:=by omega
   rw [if_neg hh] at hH
   obtain ⟨f1,f2⟩:=fin out hoD (by omega) hH
   generalize madeP m Q=W at *
   simp only [resAV] at f2 ⊢
   simp (disch:=first|assumption|omega|(simp only [List.length_append,List.length_cons,List.length_nil];omega)) only [go_sem,reduceCtorEq,Nat.reduceEqDiff,Nat.reduceAdd,Nat.reduceSub,Nat.reduceMul,Nat.reduceLeDiff,Int.reduceLT,Int.reduceLE,Int.reduceEq,↓reduceIte,Int.reduceNeg,Int.reduceAdd,Int.reduceSub,Int.reduceMul,true_imp_iff,forall_const,Nat.mul_one,Int.reduceToNat,Nat.reducePow,Int.reducePow,Bool.true_and,Bool.false_and,Bool.and_false,hf,hf7,hf8,hlt',e6,hh',hm]
   refine f1.use ?_
   simp (disch:=first|assumption|omega|(simp only [List.length_append,List.length_cons,List.length_nil];omega)) only [go_sem,reduceCtorEq,Nat.reduceEqDiff,Nat.reduceAdd,Nat.reduceSub,Nat.reduceMul,Nat.reduceLeDiff,Int.reduceLT,Int.reduceLE,Int.reduceEq,↓reduceIte,Int.reduceNeg,Int.reduceAdd,Int.reduceSub,Int.reduceMul,true_imp_iff,forall_const,Nat.mul_one,Int.reduceToNat,Nat.reducePow,Int.reducePow,Bool.true_and,Bool.false_and,Bool.and_false,hf,hm]
   refine f2.use ?_
   simp (disch:=first|assumption|omega|(simp only [List.length_append,List.length_cons,List.length_nil];omega)) only [go_sem,reduceCtorEq,Nat.reduceEqDiff,Nat.reduceAdd,Nat.reduceSub,Nat.reduceMul,Nat.reduceLeDiff,Int.reduceLT,Int.reduceLE,Int.reduceEq,↓reduceIte,Int.reduceNeg,Int.reduceAdd,Int.reduceSub,Int.reduceMul,true_imp_iff,forall_const,Nat.mul_one,Int.reduceToNat,Nat.reducePow,Int.reducePow,Bool.true_and,Bool.false_and,Bool.and_false]
   exact retC_by (by repeat' (first|exact Drop.refl _|with_reducible refine Drop.off ?_ (by assumption))) (.refl _) ⟨rfl,rfl⟩
end Go.A
namespace Go.A
open Go.Proofs
/-! 52: tabular/tabularref01.Sqrt -/
def c52_21:ACode := .seq (.seq (.ops [ oq 16 (.mv (.t 6)),oq 17 (.bin .lss (.t 16) (.v (.int .i64 9)))]) (.cond (.t 17) .skip (.exit 2))) (.seq (.block 3 (.seq (.ops [ oq 20 (.mv (.t 4)),oq 21 (.mv (.t 5)),oq 22 (.bin .add (.t 20) (.t 21)),oq 23 (.conv .u64 (.t 22)),oe 24 (.call 78 [(.t 23)]),oq 7 (.mv (.t 24))]) (.seq (.seq (.ops [ oq 25 (.mv (.t 3)),oq 26 (.mv (.t 7)),oq 27 (.mv (.t 7)),oe 28 (.call 85 [(.t 26),(.t 27)]),oe 29 (.call 84 [(.t 25),(.t 28)])]) (.cond (.t 29) (.exit 2) .skip)) (.ops [ oq 30 (.mv (.t 4)),oq 31 (.mv (.t 5)),oq 32 (.bin .add (.t 30) (.t 31)),oq 4 (.mv (.t 32))])))) (.ops [ oq 18 (.mv (.t 6)),oq 19 (.bin .add (.t 18) (.v (.int .i64 1))),oq 6 (.mv (.t 19))]))
def c52_28:ACode := .seq (.seq (.ops [ oq 12 (.mv (.t 5)),oq 13 (.bin .gtr (.t 12) (.v (.int .i64 0)))]) (.cond (.t 13) .skip (.exit 0))) (.seq (.block 1 (.seq (.ops [ oq 6 (.mv (.v (.int .i64 0)))]) (.block 2 (.loop c52_21)))) (.ops [ oq 14 (.mv (.t 5)),oq 15 (.bin .quo (.t 14) (.v (.int .i64 10))),oq 5 (.mv (.t 15))]))
def c52_37:ACode := .seq (.ops [ oq 2 (.mv (.v (.int .i64 0)))]) (.seq (.ops [ oq 8 (.mv (.t 0)),oq 9 (.conv .u64 (.t 8)),oe 10 (.call 78 [(.t 9)]),oq 11 (.bin .add (.t 10) (.v (.str [48,48,48,48]))),oq 3 (.mv (.t 11))]) (.seq (.ops [ oq 4 (.mv (.v (.int .i64 0)))]) (.seq (.seq (.ops [ oq 5 (.mv (.v (.int .i64 100000000000)))]) (.block 0 (.loop c52_28))) (.seq (.ops [ oq 33 (.mv (.t 4)),oq 2 (.mv (.t 33))]) .ret))))
@[go_sem] def c52_21_wp:=wp_of c52_21.eq_1
@[go_sem] def c52_28_wp:=wp_of c52_28.eq_1
@[go_sem] def c52_37_wp:=wp_of c52_37.eq_1
def c52:AFn:=⟨34,[.t 2],c52_37⟩
theorem c52_ok:compF Tryz.prog Tryz.f52=some c52:=by kernel_rfl
theorem a52 {args:List AV} {σ:ASt} {R:AV->ASt->Prop} (hl:args.length<=34) (h:c52_37.wp Tryz.prog (RetQ [.t 2] R) (init args) σ):ACalls Tryz.prog 52 args σ R:=acalls_of Tryz.func52 c52_ok hl h
/-! 82: tabular/tabularref01.Add -/
def c82_5:ACode := .seq (.ops [ oq 4 (.mv (.v (.int .i64 0))),oq 5 (.mv (.v (.bool false)))]) (.seq (.ops [ oq 7 (.mv (.t 0)),oq 8 (.mv (.t 1)),oq 9 (.bin .add (.t 7) (.t 8)),oq 6 (.mv (.t 9))]) (.seq (.ops [ oq 10 (.mv (.t 6)),oe 11 (.call 77 [(.t 10)]),oq 12 (.ext 0 (.t 11)),oq 13 (.ext 1 (.t 11)),oq 4 (.mv (.t 12)),oq 5 (.mv (.t 13))]) .ret))
@[go_sem] def c82_5_wp:=wp_of c82_5.eq_1
def c82:AFn:=⟨14,[.t 4,.t 5],c82_5⟩
theorem c82_ok:compF Tryz.prog Tryz.f82=some c82:=by kernel_rfl
theorem a82 {args:List AV} {σ:ASt} {R:AV->ASt->Prop} (hl:args.length<=14) (h:c82_5.wp Tryz.prog (RetQ [.t 4,.t 5] R) (init args) σ):ACalls Tryz.prog 82 args σ R:=acalls_of Tryz.func82 c82_ok hl h
/-! 83: tabular/tabularref01.Pow -/
def c83_28:ACode := .seq (.seq (.ops [ oq 22 (.mv (.t 8)),oq 23 (.mv (.t 6)),oq 24 (.bin .lss (.t 22) (.t 23))]) (.cond (.t 24) .skip (.exit 0))) (.seq (.block 1 (.seq (.ops [ oq 28 (.mv (.t 7)),oq 29 (.mv (.t 0)),oe 30 (.call 86 [(.t 28),(.t 29)]),oq 27 (.mv (.t 30)),oq 31 (.ext 0 (.t 27)),oq 32 (.ext 1 (.t 27)),oq 9 (.mv (.t 31)),oq 10 (.mv (.t 32))]) (.seq (.seq (.ops [ oq 33 (.mv (.t 10)),oq 34 (.un .not (.t 33))]) (.cond (.t 34) (.seq (.ops [ oq 4 (.mv (.v (.int .i64 0))),oq 5 (.mv (.v (.bool false)))]) .ret) .skip)) (.ops [ oq 35 (.mv (.t 9)),oq 7 (.mv (.t 35))])))) (.ops [ oq 25 (.mv (.t 8)),oq 26 (.bin .add (.t 25) (.v (.int .i64 1))),oq 8 (.mv (.t 26))]))
def c83_47:ACode := .seq (.ops [ oq 7 (.mv (.v (.int .i64 10000)))]) (.seq (.seq (.ops [ oq 8 (.mv (.v (.int .i64 0)))]) (.block 0 (.loop c83_28))) (.seq (.seq (.ops [ oq 36 (.mv (.t 1)),oq 37 (.bin .lss (.t 36) (.v (.int .i64 0)))]) (.cond (.t 37) (.seq (.seq (.ops [ oq 38 (.mv (.t 7)),oq 39 (.bin .eql (.t 38) (.v (.int .i64 0)))]) (.cond (.t 39) (.seq (.ops [ oq 4 (.mv (.v (.int .i64 0))),oq 5 (.mv (.v (.bool false)))]) .ret) .skip)) (.seq (.ops [ oq 40 (.mv (.t 7)),oe 41 (.call 94 [(.v (.int .i64 10000)),(.t 40)]),oq 42 (.ext 0 (.t 41)),oq 43 (.ext 1 (.t 41)),oq 4 (.mv (.t 42)),oq 5 (.mv (.t 43))]) .ret)) .skip)) (.seq (.ops [ oq 44 (.mv (.t 7)),oq 4 (.mv (.t 44)),oq 5 (.mv (.v (.bool true)))]) .ret)))
def c83_51:ACode := .seq (.ops [ oq 4 (.mv (.v (.int .i64 0))),oq 5 (.mv (.v (.bool false)))]) (.seq (.seq (.ops [ oq 11 (.mv (.t 1)),oq 12 (.bin .gtr (.t 11) (.v (.int .i64 1000))),oq 13 (.mv (.t 12)),⟨some 14,some (13,false),.q (.mv (.t 1)),[]⟩,⟨some 15,some (13,false),.q (.bin .lss (.t 14) (.v (.int .i64 (-1000)))),[]⟩,oq 16 (.pick (.t 13) (.v (.bool true)) (.t 15))]) (.cond (.t 16) (.seq (.ops [ oq 4 (.mv (.v (.int .i64 0))),oq 5 (.mv (.v (.bool false)))]) .ret) .skip)) (.seq (.ops [ oq 17 (.mv (.t 1)),oq 6 (.mv (.t 17))]) (.seq (.seq (.ops [ oq 18 (.mv (.t 1)),oq 19 (.bin .lss (.t 18) (.v (.int .i64 0)))]) (.cond (.t 19) (.ops [ oq 20 (.mv (.t 1)),oq 21 (.un .neg (.t 20)),oq 6 (.mv (.t 21))]) .skip)) c83_47)))
@[go_sem] def c83_28_wp:=wp_of c83_28.eq_1
@[go_sem] def c83_47_wp:=wp_of c83_47.eq_1
@[go_sem] def c83_51_wp:=wp_of c83_51.eq_1
def c83:AFn:=⟨45,[.t 4,.t 5],c83_51⟩
theorem c83_ok:compF Tryz.prog Tryz.f83=some c83:=by kernel_rfl
theorem a83 {args:List AV} {σ:ASt} {R:AV->ASt->Prop} (hl:args.length<=45) (h:c83_51.wp Tryz.prog (RetQ [.t 4,.t 5] R) (init args) σ):ACalls Tryz.prog 83 args σ R:=acalls_of Tryz.func83 c83_ok hl h
/-! 84: tabular/tabularref01.Less -/
def c84_13:ACode := .seq (.ops [ oq 4 (.mv (.v (.bool false)))]) (.seq (.ops [ oq 5 (.mv (.t 0)),oe 6 (.call 81 [(.t 5)]),oq 0 (.mv (.t 6))]) (.seq (.ops [ oq 7 (.mv (.t 1)),oe 8 (.call 81 [(.t 7)]),oq 1 (.mv (.t 8))]) (.seq (.seq (.ops [ oq 9 (.mv (.t 0)),oq 10 (.lenS (.t 9)),oq 11 (.mv (.t 1)),oq 12 (.lenS (.t 11)),oq 13 (.bin .neq (.t 10) (.t 12))]) (.cond (.t 13) (.seq (.ops [ oq 14 (.mv (.t 0)),oq 15 (.lenS (.t 14)),oq 16 (.mv (.t 1)),oq 17 (.lenS (.t 16)),oq 18 (.bin .lss (.t 15) (.t 17)),oq 4 (.mv (.t 18))]) .ret) .skip)) (.seq (.ops [ oq 19 (.mv (.t 0)),oq 20 (.mv (.t 1)),oq 21 (.bin .lss (.t 19) (.t 20)),oq 4 (.mv (.t 21))]) .ret))))
@[go_sem] def c84_13_wp:=wp_of c84_13.eq_1
def c84:AFn:=⟨22,[.t 4],c84_13⟩
theorem c84_ok:compF Tryz.prog Tryz.f84=some c84:=by kernel_rfl
theorem a84 {args:List AV} {σ:ASt} {R:AV->ASt->Prop} (hl:args.length<=22) (h:c84_13.wp Tryz.prog (RetQ [.t 4] R) (init args) σ):ACalls Tryz.prog 84 args σ R:=acalls_of Tryz.func84 c84_ok hl h
end Go.A
namespace Go.A
open Go.Proofs
theorem less_nv:∀ {x y:List UInt8},AllD x->AllD y->x.length=y.length->Op.bytesLess x y=decide (nv x<nv y)
 | [],[],_,_,_=>by simp [Op.bytesLess,nv]
 | [],_::_,_,_,h=>by simp at h
 | _::_,[],_,_,h=>by simp at h
 | c::x,d::y,hx,hy,h=>by
   have hl:x.length=y.length:=by simpa using h
   have h1:AllD x:=fun e he=>hx e (List.mem_cons_of_mem _ he)
   have h2:AllD y:=fun e he=>hy e (List.mem_cons_of_mem _ he)
   have hc:=hx c List.mem_cons_self
   have hd:=hy d List.mem_cons_self
   have ih:=less_nv h1 h2 hl
   have b1:=nv_lt h1
   have b2:=nv_lt h2
   rw [Op.bytesLess,ih,nv,nv,hl]
   rw [hl] at b1
   generalize 10 ^ y.length=W at *
   rcases Nat.lt_trichotomy c.toNat d.toNat with g|g|g
   ·have g1:c<d:=g
    have h3:(c.toNat-48+1)*W<=(d.toNat-48)*W:=Nat.mul_le_mul_right _ (by omega)
    rw [Nat.succ_mul] at h3
    rw [decide_eq_true g1,Bool.true_or,decide_eq_true]
    omega
   ·have g1:c=d:=UInt8.toNat_inj.1 g
    subst g1
    have g2:¬ c<c:=fun h=>Nat.lt_irrefl _ (UInt8.lt_iff_toNat_lt.1 h)
    rw [decide_eq_false g2,Bool.false_or,beq_self_eq_true,Bool.true_and,decide_eq_decide]
    omega
   ·have g1:¬ c<d:=fun h=>by have:=UInt8.lt_iff_toNat_lt.1 h;omega
    have g2:(c==d)=false:=beq_eq_false_iff_ne.2 fun e=>by rw [e] at g;omega
    have h3:(d.toNat-48+1)*W<=(c.toNat-48)*W:=Nat.mul_le_mul_right _ (by omega)
    rw [Nat.succ_mul] at h3
    rw [decide_eq_false g1,g2,Bool.false_and,Bool.or_false,decide_eq_false]
    omega
theorem strip_head:∀ l:List UInt8,stripP l = []\/∃ c t,stripP l=c::t/\c≠48
 | [] => .inl rfl
 | c::l=>by
   by_cases h:c=48
   ·subst h
    exact strip_head l
   ·refine .inr ⟨c,l,?_,h⟩
    unfold stripP
    rw [List.dropWhile_cons,if_neg (by simpa using h)]
theorem less_len {x y:List UInt8} (hx:AllD x) (hy:AllD (stripP y)) (h:x.length<(stripP y).length):nv x<nv (stripP y):=by
 rcases strip_head y with e|⟨c,t,e,hc⟩
 ·rw [e] at h;simp at h
 rw [e] at hy h ⊢
 have hcd:=hy c List.mem_cons_self
 have hc48:c.toNat≠48:=fun e=>hc (UInt8.toNat_inj.1 (by rw [e];rfl))
 have b1:=nv_lt hx
 have h2:10 ^ x.length<=10 ^ t.length:=Nat.pow_le_pow_right (by omega) (by simp at h;omega)
 have h3:1*10 ^ t.length<=(c.toNat-48)*10 ^ t.length:=Nat.mul_le_mul_right _ (by omega)
 rw [nv]
 omega
theorem strip_le (l:List UInt8):(stripP l).length<=l.length:=(List.dropWhile_sublist _).length_le
theorem rless_ok (x y:List UInt8) (hx:AllD x) (hy:AllD y) (lx:x.length<=100) (ly:y.length<=100):Pure Tryz.prog 84 [.str x,.str y] (.bool (decide (nv x<nv y))):=by
 intro σ
 have hX:=strip_ok x (by omega)
 have hY:=strip_ok y (by omega)
 have lX:=strip_le x
 have lY:=strip_le y
 rw [<-nv_strip x,← nv_strip y]
 have aX:=allD_strip hx
 have aY:=allD_strip hy
 have k1 := @less_len (stripP x) y aX aY
 have k2 := @less_len (stripP y) x aY aX
 have k3 := @less_nv (stripP x) (stripP y) aX aY
 generalize stripP x=X at *
 generalize stripP y=Y at *
 refine a84 (by simp) ?_
 simp (disch:=first|assumption|omega|(simp only [List.length_append,List.length_cons,List.length_nil];omega)) only [go_sem,reduceCtorEq,Nat.reduceEqDiff,Nat.reduceAdd,Nat.reduceSub,Nat.reduceMul,Nat.reduceLeDiff,Int.reduceLT,Int.reduceLE,Int.reduceEq,↓reduceIte,Int.reduceNeg,Int.reduceAdd,Int.reduceSub,Int.reduceMul,true_imp_iff,forall_const,Nat.mul_one,Int.reduceToNat,Nat.reducePow,Int.reducePow,Bool.true_and,Bool.false_and,Bool.and_false]
 refine hX.use ?_
 simp (disch:=first|assumption|omega|(simp only [List.length_append,List.length_cons,List.length_nil];omega)) only [go_sem,reduceCtorEq,Nat.reduceEqDiff,Nat.reduceAdd,Nat.reduceSub,Nat.reduceMul,Nat.reduceLeDiff,Int.reduceLT,Int.reduceLE,Int.reduceEq,↓reduceIte,Int.reduceNeg,Int.reduceAdd,Int.reduceSub,Int.reduceMul,true_imp_iff,forall_const,Nat.mul_one,Int.reduceToNat,Nat.reducePow,Int.reducePow,Bool.true_and,Bool.false_and,Bool.and_false]
 refine hY.use ?_
 by_cases hne:(X.length:Int)=Y.length
 ·have e:=k3 (by omega)
  rw [<-e]
  simp (disch:=first|assumption|omega|(simp only [List.length_append,List.length_cons,List.length_nil];omega)) only [go_sem,reduceCtorEq,Nat.reduceEqDiff,Nat.reduceAdd,Nat.reduceSub,Nat.reduceMul,Nat.reduceLeDiff,Int.reduceLT,Int.reduceLE,Int.reduceEq,↓reduceIte,Int.reduceNeg,Int.reduceAdd,Int.reduceSub,Int.reduceMul,true_imp_iff,forall_const,Nat.mul_one,Int.reduceToNat,Nat.reducePow,Int.reducePow,Bool.true_and,Bool.false_and,Bool.and_false,hne]
  exact retC_by (by repeat' (first|exact Drop.refl _|with_reducible refine Drop.off ?_ (by assumption))) (.refl _) ⟨rfl,rfl⟩
 ·have e:decide ((X.length:Int)<Y.length)=decide (nv X<nv Y):=by
   rw [decide_eq_decide]
   constructor
   ·intro h;exact k1 (by omega)
   ·intro h
    refine Int.not_le.1 fun h2=>?_
    have:=k2 (by omega)
    omega
  rw [<-e]
  simp (disch:=first|assumption|omega|(simp only [List.length_append,List.length_cons,List.length_nil];omega)) only [go_sem,reduceCtorEq,Nat.reduceEqDiff,Nat.reduceAdd,Nat.reduceSub,Nat.reduceMul,Nat.reduceLeDiff,Int.reduceLT,Int.reduceLE,Int.reduceEq,↓reduceIte,Int.reduceNeg,Int.reduceAdd,Int.reduceSub,Int.reduceMul,true_imp_iff,forall_const,Nat.mul_one,Int.reduceToNat,Nat.reducePow,Int.reducePow,Bool.true_and,Bool.false_and,Bool.and_false,hne]
  exact retC_by (by repeat' (first|exact Drop.refl _|with_reducible refine Drop.off ?_ (by assumption))) (.refl _) ⟨rfl,rfl⟩
theorem radd_ok {a b:Int} (h:(a+b).natAbs<=9223372036854775807):Pure Tryz.prog 82 [.int .i64 a,.int .i64 b] (resAV (fitP (a+b))):=by
 intro σ
 have hF:=fit_ok (a+b)
 obtain ⟨c,hc⟩:∃ c,a+b=c:=⟨_,rfl⟩
 rw [hc] at hF h ⊢
 simp only [resAV] at hF ⊢
 refine a82 (by simp) ?_
 simp (disch:=first|assumption|omega|(simp only [List.length_append,List.length_cons,List.length_nil];omega)) only [go_sem,reduceCtorEq,Nat.reduceEqDiff,Nat.reduceAdd,Nat.reduceSub,Nat.reduceMul,Nat.reduceLeDiff,Int.reduceLT,Int.reduceLE,Int.reduceEq,↓reduceIte,Int.reduceNeg,Int.reduceAdd,Int.reduceSub,Int.reduceMul,true_imp_iff,forall_const,Nat.mul_one,Int.reduceToNat,Nat.reducePow,Int.reducePow,Bool.true_and,Bool.false_and,Bool.and_false,hc]
 refine hF.use ?_
 simp (disch:=first|assumption|omega|(simp only [List.length_append,List.length_cons,List.length_nil];omega)) only [go_sem,reduceCtorEq,Nat.reduceEqDiff,Nat.reduceAdd,Nat.reduceSub,Nat.reduceMul,Nat.reduceLeDiff,Int.reduceLT,Int.reduceLE,Int.reduceEq,↓reduceIte,Int.reduceNeg,Int.reduceAdd,Int.reduceSub,Int.reduceMul,true_imp_iff,forall_const,Nat.mul_one,Int.reduceToNat,Nat.reducePow,Int.reducePow,Bool.true_and,Bool.false_and,Bool.and_false]
 exact retC_by (by repeat' (first|exact Drop.refl _|with_reducible refine Drop.off ?_ (by assumption))) (.refl _) ⟨rfl,rfl⟩
theorem nv_noughts {l:List UInt8}:nv (l ++ [48,48,48,48])=nv l*10000:=by
 have:nv [48,48,48,48]=0:=nv_zeros 4
 rw [nv_app,this]
 rfl
set_option maxHeartbeats 2000000 in
theorem rsqrt_ok {a:Int} (h0:0<=a) (h1:a<=999999999999999999):Pure Tryz.prog 52 [.int .i64 a] (.int .i64 (rootD (a.toNat*10000):Nat)):=by
 intro σ
 obtain ⟨n,hn⟩:∃ n,a.toNat*10000=n:=⟨_,rfl⟩
 rw [hn]
 have hnb:n<20000000000000000000000:=by omega
 have ec:IntKind.u64.wrap a=((a.toNat:Nat):Int):=by rw [IntKind.wrap_u64];omega
 have hD:=rdigits_ok a.toNat (by omega)
 have lD:=dd_len 17 a.toNat (by omega)
 have aS:AllD (Lib.decDigits a.toNat ++ [48,48,48,48]):=allD_app (dd_all _).1 (allD_zeros 4)
 have nS:nv (Lib.decDigits a.toNat ++ [48,48,48,48])=n:=by rw [nv_noughts,nv_dd,hn]
 have e0:binS .add (Lib.decDigits a.toNat) [48,48,48,48]=some (.str (Lib.decDigits a.toNat ++ [48,48,48,48])):=binS_add (by simp;omega)
 have lS:(Lib.decDigits a.toNat ++ [48,48,48,48]).length<=22:=by simp;omega
 generalize Lib.decDigits a.toNat ++ [48,48,48,48]=W at *
 generalize Lib.decDigits a.toNat=X at *
 refine a52 (by simp) ?_
 simp (disch:=first|assumption|omega|(simp only [List.length_append,List.length_cons,List.length_nil];omega)) only [go_sem,reduceCtorEq,Nat.reduceEqDiff,Nat.reduceAdd,Nat.reduceSub,Nat.reduceMul,Nat.reduceLeDiff,Int.reduceLT,Int.reduceLE,Int.reduceEq,↓reduceIte,Int.reduceNeg,Int.reduceAdd,Int.reduceSub,Int.reduceMul,true_imp_iff,forall_const,Nat.mul_one,Int.reduceToNat,Nat.reducePow,Int.reducePow,Bool.true_and,Bool.false_and,Bool.and_false,ec]
 refine hD.use ?_
 simp (disch:=first|assumption|omega|(simp only [List.length_append,List.length_cons,List.length_nil];omega)) only [go_sem,reduceCtorEq,Nat.reduceEqDiff,Nat.reduceAdd,Nat.reduceSub,Nat.reduceMul,Nat.reduceLeDiff,Int.reduceLT,Int.reduceLE,Int.reduceEq,↓reduceIte,Int.reduceNeg,Int.reduceAdd,Int.reduceSub,Int.reduceMul,true_imp_iff,forall_const,Nat.mul_one,Int.reduceToNat,Nat.reducePow,Int.reducePow,Bool.true_and,Bool.false_and,Bool.and_false,e0]
 have t1:((100000000000:Int))=((10 ^ 12 / 10:Nat):Int):=by decide
 refine wp_loop_on (fun (e:Nat) a1 s=>e<=12/\(∃ r:Nat,r*r<=n/\n<(r+10 ^ e)*(r+10 ^ e)/\r+10 ^ e<=1000000000000/\(a1 4 = .int .i64 r/\a1 5 = .int .i64 ((10 ^ e / 10:Nat):Int)))/\(a1 3 = .str W)/\s=σ) (fun e=>e) 12 ⟨Nat.le_refl _,⟨0,by omega,by omega,by omega,?_⟩,?_,rfl⟩ ?_
 ·simp (disch:=first|assumption|omega|(simp only [List.length_append,List.length_cons,List.length_nil];omega)) only [go_sem,reduceCtorEq,Nat.reduceEqDiff,Nat.reduceAdd,Nat.reduceSub,Nat.reduceMul,Nat.reduceLeDiff,Int.reduceLT,Int.reduceLE,Int.reduceEq,↓reduceIte,Int.reduceNeg,Int.reduceAdd,Int.reduceSub,Int.reduceMul,true_imp_iff,forall_const,Nat.mul_one,Int.reduceToNat,Nat.reducePow,Int.reducePow,Bool.true_and,Bool.false_and,Bool.and_false,t1]
 ·simp (disch:=first|assumption|omega|(simp only [List.length_append,List.length_cons,List.length_nil];omega)) only [go_sem,reduceCtorEq,Nat.reduceEqDiff,Nat.reduceAdd,Nat.reduceSub,Nat.reduceMul,Nat.reduceLeDiff,Int.reduceLT,Int.reduceLE,Int.reduceEq,↓reduceIte,Int.reduceNeg,Int.reduceAdd,Int.reduceSub,Int.reduceMul,true_imp_iff,forall_const,Nat.mul_one,Int.reduceToNat,Nat.reducePow,Int.reducePow,Bool.true_and,Bool.false_and,Bool.and_false]
 rintro e a1 s1 ⟨he,⟨r,hr1,hr2,hr3,hf4,hf5⟩,hf,rfl⟩
 by_cases he0:e=0
 ·subst he0
  have g0:¬ (0:Int)<(((10 ^ 0 / 10:Nat)):Int):=by decide
  have hroot:r=rootD n:=by
   obtain ⟨q1,q2⟩:=rootP_is n 38 0 (by omega) (by simp;omega)
   exact root_one hr1 (by simpa using hr2) q1 q2
  simp (disch:=first|assumption|omega|(simp only [List.length_append,List.length_cons,List.length_nil];omega)) only [go_sem,reduceCtorEq,Nat.reduceEqDiff,Nat.reduceAdd,Nat.reduceSub,Nat.reduceMul,Nat.reduceLeDiff,Int.reduceLT,Int.reduceLE,Int.reduceEq,↓reduceIte,Int.reduceNeg,Int.reduceAdd,Int.reduceSub,Int.reduceMul,true_imp_iff,forall_const,Nat.mul_one,Int.reduceToNat,Nat.reducePow,Int.reducePow,Bool.true_and,Bool.false_and,Bool.and_false,hf,hf4,hf5,g0]
  exact retC_by (by repeat' (first|exact Drop.refl _|with_reducible refine Drop.off ?_ (by assumption))) (.refl _) ⟨by rw [hroot];rfl,rfl⟩
 ·obtain ⟨k,rfl⟩:∃ k,e=k+1:=⟨e-1,by omega⟩
  have hp:10 ^ (k+1)=10*10 ^ k:=Nat.pow_succ'
  rw [hp] at hr2 hr3 hf5
  have ew:10*10 ^ k / 10=10 ^ k:=by omega
  rw [ew] at hf5
  have hw0:0<10 ^ k:=Nat.pow_pos (by omega)
  have hk12:k+1<=12:=he
  obtain ⟨w,hw⟩:∃ w,10 ^ k=w:=⟨_,rfl⟩
  rw [hw] at hr2 hr3 hf5 hw0
  have g0:(0:Int)<w:=by omega
  obtain ⟨T,hT⟩:∃ T,r+10*w=T:=⟨_,rfl⟩
  rw [hT] at hr2 hr3
  have t2:((w:Nat):Int).tdiv 10=((w / 10:Nat):Int):=rfl
  simp (disch:=first|assumption|omega|(simp only [List.length_append,List.length_cons,List.length_nil];omega)) only [go_sem,reduceCtorEq,Nat.reduceEqDiff,Nat.reduceAdd,Nat.reduceSub,Nat.reduceMul,Nat.reduceLeDiff,Int.reduceLT,Int.reduceLE,Int.reduceEq,↓reduceIte,Int.reduceNeg,Int.reduceAdd,Int.reduceSub,Int.reduceMul,true_imp_iff,forall_const,Nat.mul_one,Int.reduceToNat,Nat.reducePow,Int.reducePow,Bool.true_and,Bool.false_and,Bool.and_false,hf,hf4,hf5,g0]
  refine wp_loop_on (fun (i:Nat) a2 s=>i<=9/\(∃ r u:Nat,u=(10-i)*w/\r+u=T/\r*r<=n/\(a2 4 = .int .i64 r))/\(a2 3 = .str W/\a2 5 = .int .i64 w/\a2 6 = .int .i64 i)/\s=s1) (fun i=>9-i) 0 ⟨Nat.zero_le _,⟨r,10*w,by omega,hT,hr1,?_⟩,?_,rfl⟩ ?_
  ·simp (disch:=first|assumption|omega|(simp only [List.length_append,List.length_cons,List.length_nil];omega)) only [go_sem,reduceCtorEq,Nat.reduceEqDiff,Nat.reduceAdd,Nat.reduceSub,Nat.reduceMul,Nat.reduceLeDiff,Int.reduceLT,Int.reduceLE,Int.reduceEq,↓reduceIte,Int.reduceNeg,Int.reduceAdd,Int.reduceSub,Int.reduceMul,true_imp_iff,forall_const,Nat.mul_one,Int.reduceToNat,Nat.reducePow,Int.reducePow,Bool.true_and,Bool.false_and,Bool.and_false,hf4]
  ·simp (disch:=first|assumption|omega|(simp only [List.length_append,List.length_cons,List.length_nil];omega)) only [go_sem,reduceCtorEq,Nat.reduceEqDiff,Nat.reduceAdd,Nat.reduceSub,Nat.reduceMul,Nat.reduceLeDiff,Int.reduceLT,Int.reduceLE,Int.reduceEq,↓reduceIte,Int.reduceNeg,Int.reduceAdd,Int.reduceSub,Int.reduceMul,true_imp_iff,forall_const,Nat.mul_one,Int.reduceToNat,Nat.reducePow,Int.reducePow,Bool.true_and,Bool.false_and,Bool.and_false,hf,hf5]
  clear hf4 hf5 hf hT hr1
  clear r
  rintro i a2 s2 ⟨hi,⟨r,u,hu,hT,hr1,hf4⟩,hf,rfl⟩
  by_cases hi9:i<9
  ·have hi9':(i:Int)<9:=by omega
   have hu2:u=(10-(i+1))*w+w:=by rw [hu,show 10-i=(10-(i+1))+1 by omega,Nat.succ_mul]
   have hu3:1*w<=(10-(i+1))*w:=Nat.mul_le_mul_right _ (by omega)
   obtain ⟨v,hv⟩:∃ v,(10-(i+1))*w=v:=⟨_,rfl⟩
   rw [hv] at hu2 hu3
   have e1:(r:Int)+w=((r+w:Nat):Int):=by omega
   have e2:IntKind.u64.wrap ((r+w:Nat):Int)=((r+w:Nat):Int):=by rw [IntKind.wrap_u64];omega
   have hD2:=rdigits_ok (r+w) (by omega)
   have lD2:=dd_len 12 (r+w) (by omega)
   have pD2:=List.length_pos_iff.2 (dd_len_pos (r+w))
   have hTi:=times_ok (Lib.decDigits (r+w)) (Lib.decDigits (r+w)) (dd_all _).1 (dd_all _).1 pD2 (by omega) (by omega) s2
   rw [nv_dd] at hTi
   generalize Lib.decDigits (r+w)=Y at *
   obtain ⟨R,hR⟩:∃ R,r+w=R:=⟨_,rfl⟩
   rw [hR] at e1 e2 hD2 hTi
   simp (disch:=first|assumption|omega|(simp only [List.length_append,List.length_cons,List.length_nil];omega)) only [go_sem,reduceCtorEq,Nat.reduceEqDiff,Nat.reduceAdd,Nat.reduceSub,Nat.reduceMul,Nat.reduceLeDiff,Int.reduceLT,Int.reduceLE,Int.reduceEq,↓reduceIte,Int.reduceNeg,Int.reduceAdd,Int.reduceSub,Int.reduceMul,true_imp_iff,forall_const,Nat.mul_one,Int.reduceToNat,Nat.reducePow,Int.reducePow,Bool.true_and,Bool.false_and,Bool.and_false,hf,hf4,hi9',e1,e2]
   refine hD2.use ?_
   simp (disch:=first|assumption|omega|(simp only [List.length_append,List.length_cons,List.length_nil];omega)) only [go_sem,reduceCtorEq,Nat.reduceEqDiff,Nat.reduceAdd,Nat.reduceSub,Nat.reduceMul,Nat.reduceLeDiff,Int.reduceLT,Int.reduceLE,Int.reduceEq,↓reduceIte,Int.reduceNeg,Int.reduceAdd,Int.reduceSub,Int.reduceMul,true_imp_iff,forall_const,Nat.mul_one,Int.reduceToNat,Nat.reducePow,Int.reducePow,Bool.true_and,Bool.false_and,Bool.and_false,hf,hf4]
   refine hTi.mono ?_
   rintro z σ' ⟨rfl,z,rfl,hz,hzv,hzl⟩
   have hL:=rless_ok W z aS hz (by omega) (by omega)
   rw [hzv,nS] at hL
   by_cases hlt:n<R*R
   ·rw [decide_eq_true hlt] at hL
    simp (disch:=first|assumption|omega|(simp only [List.length_append,List.length_cons,List.length_nil];omega)) only [go_sem,reduceCtorEq,Nat.reduceEqDiff,Nat.reduceAdd,Nat.reduceSub,Nat.reduceMul,Nat.reduceLeDiff,Int.reduceLT,Int.reduceLE,Int.reduceEq,↓reduceIte,Int.reduceNeg,Int.reduceAdd,Int.reduceSub,Int.reduceMul,true_imp_iff,forall_const,Nat.mul_one,Int.reduceToNat,Nat.reducePow,Int.reducePow,Bool.true_and,Bool.false_and,Bool.and_false,hf,hf4]
    refine hL.use ?_
    simp (disch:=first|assumption|omega|(simp only [List.length_append,List.length_cons,List.length_nil];omega)) only [go_sem,reduceCtorEq,Nat.reduceEqDiff,Nat.reduceAdd,Nat.reduceSub,Nat.reduceMul,Nat.reduceLeDiff,Int.reduceLT,Int.reduceLE,Int.reduceEq,↓reduceIte,Int.reduceNeg,Int.reduceAdd,Int.reduceSub,Int.reduceMul,true_imp_iff,forall_const,Nat.mul_one,Int.reduceToNat,Nat.reducePow,Int.reducePow,Bool.true_and,Bool.false_and,Bool.and_false,hf,hf4,t2]
    refine ⟨k,by omega,by omega,⟨r,hr1,by rw [hw,hR];exact hlt,by rw [hw];omega,rfl,by rw [hw]⟩⟩
   ·rw [decide_eq_false hlt] at hL
    simp (disch:=first|assumption|omega|(simp only [List.length_append,List.length_cons,List.length_nil];omega)) only [go_sem,reduceCtorEq,Nat.reduceEqDiff,Nat.reduceAdd,Nat.reduceSub,Nat.reduceMul,Nat.reduceLeDiff,Int.reduceLT,Int.reduceLE,Int.reduceEq,↓reduceIte,Int.reduceNeg,Int.reduceAdd,Int.reduceSub,Int.reduceMul,true_imp_iff,forall_const,Nat.mul_one,Int.reduceToNat,Nat.reducePow,Int.reducePow,Bool.true_and,Bool.false_and,Bool.and_false,hf,hf4]
    refine hL.use ?_
    simp (disch:=first|assumption|omega|(simp only [List.length_append,List.length_cons,List.length_nil];omega)) only [go_sem,reduceCtorEq,Nat.reduceEqDiff,Nat.reduceAdd,Nat.reduceSub,Nat.reduceMul,Nat.reduceLeDiff,Int.reduceLT,Int.reduceLE,Int.reduceEq,↓reduceIte,Int.reduceNeg,Int.reduceAdd,Int.reduceSub,Int.reduceMul,true_imp_iff,forall_const,Nat.mul_one,Int.reduceToNat,Nat.reducePow,Int.reducePow,Bool.true_and,Bool.false_and,Bool.and_false,hf,hf4,e1]
    first
     | exact ⟨i+1,by omega,by omega,⟨R,v,hv.symm,by omega,by omega,rfl⟩,rfl⟩
     | exact ⟨i+1,by omega,by omega,⟨R,v,hv.symm,by omega,by omega,rfl⟩⟩
  ·have hi9':¬ (i:Int)<9:=by omega
   obtain rfl:i=9:=by omega
   have hRT:r+w=T:=by omega
   simp (disch:=first|assumption|omega|(simp only [List.length_append,List.length_cons,List.length_nil];omega)) only [go_sem,reduceCtorEq,Nat.reduceEqDiff,Nat.reduceAdd,Nat.reduceSub,Nat.reduceMul,Nat.reduceLeDiff,Int.reduceLT,Int.reduceLE,Int.reduceEq,↓reduceIte,Int.reduceNeg,Int.reduceAdd,Int.reduceSub,Int.reduceMul,true_imp_iff,forall_const,Nat.mul_one,Int.reduceToNat,Nat.reducePow,Int.reducePow,Bool.true_and,Bool.false_and,Bool.and_false,hf,hf4,hi9',t2]
   refine ⟨k,by omega,by omega,⟨r,hr1,by rw [hw,hRT];exact hr2,by rw [hw];omega,rfl,by rw [hw]⟩⟩
def rpowR (a n:Int):Option Int:=if n < -1000\/1000<n then none else (powR a n.natAbs).bind fun p=>if n<0 then (if p=0 then none else divR 10000 p) else some p
theorem rpow_same (a n:Int):powD a n=rpowR a n:=by
 unfold powD rpowR
 by_cases h:n < -1000\/1000<n
 ·rw [if_pos h,if_pos h]
 ·rw [if_neg h,if_neg h,pow_same a (by omega)]
  congr 1
  funext p
  by_cases hn:n<0
  ·rw [if_pos hn,if_pos hn]
   by_cases hp:p=0
   ·rw [if_pos hp,hp];rfl
   ·rw [if_neg hp,div_same (by decide) hp]
  ·rw [if_neg hn,if_neg hn]
theorem powR_none {a:Int}:∀ {n m:Nat},powR a n=none->n<=m->powR a m=none
 | n,0,h,hm=>by
   obtain rfl:n=0:=by omega
   exact h
 | n,m+1,h,hm=>by
   by_cases he:n=m+1
   ·subst he;exact h
   ·have:=powR_none h (show n<=m by omega)
    rw [powR,this];rfl
theorem powR_le {a:Int}:∀ {n:Nat} {p:Int},powR a n=some p->p.natAbs<=999999999999999999
 | 0,p,h=>by injection h with h;subst h;decide
 | n+1,p,h=>by
   obtain ⟨q,_,hq⟩:=Option.bind_eq_some_iff.1 h
   obtain ⟨h1,h2⟩:=madeP_some hq
   omega
set_option maxHeartbeats 1000000 in
theorem rpow_ok (a n:Int) (ha:a.natAbs<=999999999999999999) (hn:n.natAbs<=999999999999999999):Pure Tryz.prog 83 [.int .i64 a,.int .i64 n] (resAV (powD a n)):=by
 intro σ
 rw [rpow_same]
 unfold rpowR
 refine a83 (by simp) ?_
 by_cases h2:1000<n
 ·rw [if_pos (.inr h2)]
  simp (disch:=first|assumption|omega|(simp only [List.length_append,List.length_cons,List.length_nil];omega)) only [go_sem,reduceCtorEq,Nat.reduceEqDiff,Nat.reduceAdd,Nat.reduceSub,Nat.reduceMul,Nat.reduceLeDiff,Int.reduceLT,Int.reduceLE,Int.reduceEq,↓reduceIte,Int.reduceNeg,Int.reduceAdd,Int.reduceSub,Int.reduceMul,true_imp_iff,forall_const,Nat.mul_one,Int.reduceToNat,Nat.reducePow,Int.reducePow,Bool.true_and,Bool.false_and,Bool.and_false,h2]
  exact retC_by (by repeat' (first|exact Drop.refl _|with_reducible refine Drop.off ?_ (by assumption))) (.refl _) ⟨rfl,rfl⟩
 by_cases h1:n < -1000
 ·rw [if_pos (.inl h1)]
  simp (disch:=first|assumption|omega|(simp only [List.length_append,List.length_cons,List.length_nil];omega)) only [go_sem,reduceCtorEq,Nat.reduceEqDiff,Nat.reduceAdd,Nat.reduceSub,Nat.reduceMul,Nat.reduceLeDiff,Int.reduceLT,Int.reduceLE,Int.reduceEq,↓reduceIte,Int.reduceNeg,Int.reduceAdd,Int.reduceSub,Int.reduceMul,true_imp_iff,forall_const,Nat.mul_one,Int.reduceToNat,Nat.reducePow,Int.reducePow,Bool.true_and,Bool.false_and,Bool.and_false,h2,h1]
  exact retC_by (by repeat' (first|exact Drop.refl _|with_reducible refine Drop.off ?_ (by assumption))) (.refl _) ⟨rfl,rfl⟩
 rw [if_neg (by omega)]
 obtain ⟨m,hm⟩:∃ m,n.natAbs=m:=⟨_,rfl⟩
 rw [hm]
 obtain ⟨V,hV⟩:∃ V,((powR a m).bind fun p=>if n<0 then (if p=0 then none else divR 10000 p) else some p)=V:=⟨_,rfl⟩
 rw [hV]
 obtain ⟨F,hF⟩:∃ F,F=ACode.wp Tryz.prog c83_47:=⟨_,rfl⟩
 have hgo:∀ (a0:AFr),(a0 0 = .int .i64 a/\a0 1 = .int .i64 n/\a0 6 = .int .i64 m)->F (RetQ [.t 4,.t 5] fun v σ'=>v=resAV V/\σ'=σ) a0 σ:=by
  intro a0 hf
  rw [hF,← hV]
  simp (disch:=first|assumption|omega|(simp only [List.length_append,List.length_cons,List.length_nil];omega)) only [go_sem,reduceCtorEq,Nat.reduceEqDiff,Nat.reduceAdd,Nat.reduceSub,Nat.reduceMul,Nat.reduceLeDiff,Int.reduceLT,Int.reduceLE,Int.reduceEq,↓reduceIte,Int.reduceNeg,Int.reduceAdd,Int.reduceSub,Int.reduceMul,true_imp_iff,forall_const,Nat.mul_one,Int.reduceToNat,Nat.reducePow,Int.reducePow,Bool.true_and,Bool.false_and,Bool.and_false,hf]
  refine wp_loop_on (fun (i:Nat) a1 s=>i<=m/\(∃ p:Int,powR a i=some p/\(a1 7 = .int .i64 p))/\(a1 0 = .int .i64 a/\a1 1 = .int .i64 n/\a1 6 = .int .i64 m/\a1 8 = .int .i64 i)/\s=σ) (fun i=>m-i) 0 ⟨Nat.zero_le _,⟨10000,rfl,?_⟩,?_,rfl⟩ ?_
  ·simp (disch:=first|assumption|omega|(simp only [List.length_append,List.length_cons,List.length_nil];omega)) only [go_sem,reduceCtorEq,Nat.reduceEqDiff,Nat.reduceAdd,Nat.reduceSub,Nat.reduceMul,Nat.reduceLeDiff,Int.reduceLT,Int.reduceLE,Int.reduceEq,↓reduceIte,Int.reduceNeg,Int.reduceAdd,Int.reduceSub,Int.reduceMul,true_imp_iff,forall_const,Nat.mul_one,Int.reduceToNat,Nat.reducePow,Int.reducePow,Bool.true_and,Bool.false_and,Bool.and_false]
  ·simp (disch:=first|assumption|omega|(simp only [List.length_append,List.length_cons,List.length_nil];omega)) only [go_sem,reduceCtorEq,Nat.reduceEqDiff,Nat.reduceAdd,Nat.reduceSub,Nat.reduceMul,Nat.reduceLeDiff,Int.reduceLT,Int.reduceLE,Int.reduceEq,↓reduceIte,Int.reduceNeg,Int.reduceAdd,Int.reduceSub,Int.reduceMul,true_imp_iff,forall_const,Nat.mul_one,Int.reduceToNat,Nat.reducePow,Int.reducePow,Bool.true_and,Bool.false_and,Bool.and_false,hf]
  clear hf
  rintro i a1 s1 ⟨hi,⟨p,hp,hf7⟩,hf,rfl⟩
  have hpl:=powR_le hp
  by_cases hlt:i<m
  ·have hlt':(i:Int)<m:=by omega
   have hM:=rmul_ok p a hpl ha
   have hs:powR a (i+1)=mulR p a:=by rw [powR,hp];rfl
   cases hr:mulR p a with
   | none=>
     rw [hr] at hM hs
     rw [powR_none hs hlt]
     simp only [resAV,Option.bind_none,Option.getD_none,Option.isSome_none] at hM ⊢
     simp (disch:=first|assumption|omega|(simp only [List.length_append,List.length_cons,List.length_nil];omega)) only [go_sem,reduceCtorEq,Nat.reduceEqDiff,Nat.reduceAdd,Nat.reduceSub,Nat.reduceMul,Nat.reduceLeDiff,Int.reduceLT,Int.reduceLE,Int.reduceEq,↓reduceIte,Int.reduceNeg,Int.reduceAdd,Int.reduceSub,Int.reduceMul,true_imp_iff,forall_const,Nat.mul_one,Int.reduceToNat,Nat.reducePow,Int.reducePow,Bool.true_and,Bool.false_and,Bool.and_false,hf,hf7,hlt']
     refine hM.use ?_
     simp (disch:=first|assumption|omega|(simp only [List.length_append,List.length_cons,List.length_nil];omega)) only [go_sem,reduceCtorEq,Nat.reduceEqDiff,Nat.reduceAdd,Nat.reduceSub,Nat.reduceMul,Nat.reduceLeDiff,Int.reduceLT,Int.reduceLE,Int.reduceEq,↓reduceIte,Int.reduceNeg,Int.reduceAdd,Int.reduceSub,Int.reduceMul,true_imp_iff,forall_const,Nat.mul_one,Int.reduceToNat,Nat.reducePow,Int.reducePow,Bool.true_and,Bool.false_and,Bool.and_false,hf,hf7]
     exact retC_by (by repeat' (first|exact Drop.refl _|with_reducible refine Drop.off ?_ (by assumption))) (.refl _) ⟨rfl,rfl⟩
   | some q=>
     rw [hr] at hM hs
     simp only [resAV,Option.getD_some,Option.isSome_some] at hM
     simp (disch:=first|assumption|omega|(simp only [List.length_append,List.length_cons,List.length_nil];omega)) only [go_sem,reduceCtorEq,Nat.reduceEqDiff,Nat.reduceAdd,Nat.reduceSub,Nat.reduceMul,Nat.reduceLeDiff,Int.reduceLT,Int.reduceLE,Int.reduceEq,↓reduceIte,Int.reduceNeg,Int.reduceAdd,Int.reduceSub,Int.reduceMul,true_imp_iff,forall_const,Nat.mul_one,Int.reduceToNat,Nat.reducePow,Int.reducePow,Bool.true_and,Bool.false_and,Bool.and_false,hf,hf7,hlt']
     refine hM.use ?_
     simp (disch:=first|assumption|omega|(simp only [List.length_append,List.length_cons,List.length_nil];omega)) only [go_sem,reduceCtorEq,Nat.reduceEqDiff,Nat.reduceAdd,Nat.reduceSub,Nat.reduceMul,Nat.reduceLeDiff,Int.reduceLT,Int.reduceLE,Int.reduceEq,↓reduceIte,Int.reduceNeg,Int.reduceAdd,Int.reduceSub,Int.reduceMul,true_imp_iff,forall_const,Nat.mul_one,Int.reduceToNat,Nat.reducePow,Int.reducePow,Bool.true_and,Bool.false_and,Bool.and_false,hf,hf7]
     first
      | exact ⟨i+1,by omega,by omega,⟨q,hs,rfl⟩,rfl⟩
      | exact ⟨i+1,by omega,by omega,hs,rfl⟩
  ·have hlt':¬ (i:Int)<m:=by omega
   obtain rfl:i=m:=by omega
   rw [hp,Option.bind_some]
   by_cases hn0:n<0
   ·rw [if_pos hn0]
    by_cases hp0:p=0
    ·rw [if_pos hp0]
     simp only [resAV,Option.getD_none,Option.isSome_none]
     simp (disch:=first|assumption|omega|(simp only [List.length_append,List.length_cons,List.length_nil];omega)) only [go_sem,reduceCtorEq,Nat.reduceEqDiff,Nat.reduceAdd,Nat.reduceSub,Nat.reduceMul,Nat.reduceLeDiff,Int.reduceLT,Int.reduceLE,Int.reduceEq,↓reduceIte,Int.reduceNeg,Int.reduceAdd,Int.reduceSub,Int.reduceMul,true_imp_iff,forall_const,Nat.mul_one,Int.reduceToNat,Nat.reducePow,Int.reducePow,Bool.true_and,Bool.false_and,Bool.and_false,hf,hf7,hlt',hn0,hp0]
     exact retC_by (by repeat' (first|exact Drop.refl _|with_reducible refine Drop.off ?_ (by assumption))) (.refl _) ⟨rfl,rfl⟩
    ·rw [if_neg hp0]
     have hD:=rdiv_ok 10000 p (by decide) hpl hp0
     generalize divR 10000 p=D at *
     simp only [resAV] at hD ⊢
     simp (disch:=first|assumption|omega|(simp only [List.length_append,List.length_cons,List.length_nil];omega)) only [go_sem,reduceCtorEq,Nat.reduceEqDiff,Nat.reduceAdd,Nat.reduceSub,Nat.reduceMul,Nat.reduceLeDiff,Int.reduceLT,Int.reduceLE,Int.reduceEq,↓reduceIte,Int.reduceNeg,Int.reduceAdd,Int.reduceSub,Int.reduceMul,true_imp_iff,forall_const,Nat.mul_one,Int.reduceToNat,Nat.reducePow,Int.reducePow,Bool.true_and,Bool.false_and,Bool.and_false,hf,hf7,hlt',hn0,hp0]
     refine hD.use ?_
     simp (disch:=first|assumption|omega|(simp only [List.length_append,List.length_cons,List.length_nil];omega)) only [go_sem,reduceCtorEq,Nat.reduceEqDiff,Nat.reduceAdd,Nat.reduceSub,Nat.reduceMul,Nat.reduceLeDiff,Int.reduceLT,Int.reduceLE,Int.reduceEq,↓reduceIte,Int.reduceNeg,Int.reduceAdd,Int.reduceSub,Int.reduceMul,true_imp_iff,forall_const,Nat.mul_one,Int.reduceToNat,Nat.reducePow,Int.reducePow,Bool.true_and,Bool.false_and,Bool.and_false]
     exact retC_by (by repeat' (first|exact Drop.refl _|with_reducible refine Drop.off ?_ (by assumption))) (.refl _) ⟨rfl,rfl⟩
   ·rw [if_neg hn0]
    simp only [resAV,Option.getD_some,Option.isSome_some]
    simp (disch:=first|assumption|omega|(simp only [List.length_append,List.length_cons,List.length_nil];omega)) only [go_sem,reduceCtorEq,Nat.reduceEqDiff,Nat.reduceAdd,Nat.reduceSub,Nat.reduceMul,Nat.reduceLeDiff,Int.reduceLT,Int.reduceLE,Int.reduceEq,↓reduceIte,Int.reduceNeg,Int.reduceAdd,Int.reduceSub,Int.reduceMul,true_imp_iff,forall_const,Nat.mul_one,Int.reduceToNat,Nat.reducePow,Int.reducePow,Bool.true_and,Bool.false_and,Bool.and_false,hf,hf7,hlt',hn0]
    exact retC_by (by repeat' (first|exact Drop.refl _|with_reducible refine Drop.off ?_ (by assumption))) (.refl _) ⟨rfl,rfl⟩
 by_cases hn0:n<0
 ·have e1:0-n=(m:Int):=by omega
  simp (disch:=first|assumption|omega|(simp only [List.length_append,List.length_cons,List.length_nil];omega)) only [go_sem,reduceCtorEq,Nat.reduceEqDiff,Nat.reduceAdd,Nat.reduceSub,Nat.reduceMul,Nat.reduceLeDiff,Int.reduceLT,Int.reduceLE,Int.reduceEq,↓reduceIte,Int.reduceNeg,Int.reduceAdd,Int.reduceSub,Int.reduceMul,true_imp_iff,forall_const,Nat.mul_one,Int.reduceToNat,Nat.reducePow,Int.reducePow,Bool.true_and,Bool.false_and,Bool.and_false,h2,h1,hn0,e1,←hF]
  refine hgo _ ?_
  simp (disch:=first|assumption|omega|(simp only [List.length_append,List.length_cons,List.length_nil];omega)) only [go_sem,reduceCtorEq,Nat.reduceEqDiff,Nat.reduceAdd,Nat.reduceSub,Nat.reduceMul,Nat.reduceLeDiff,Int.reduceLT,Int.reduceLE,Int.reduceEq,↓reduceIte,Int.reduceNeg,Int.reduceAdd,Int.reduceSub,Int.reduceMul,true_imp_iff,forall_const,Nat.mul_one,Int.reduceToNat,Nat.reducePow,Int.reducePow,Bool.true_and,Bool.false_and,Bool.and_false,e1]
 ·have e1:n=(m:Int):=by omega
  simp (disch:=first|assumption|omega|(simp only [List.length_append,List.length_cons,List.length_nil];omega)) only [go_sem,reduceCtorEq,Nat.reduceEqDiff,Nat.reduceAdd,Nat.reduceSub,Nat.reduceMul,Nat.reduceLeDiff,Int.reduceLT,Int.reduceLE,Int.reduceEq,↓reduceIte,Int.reduceNeg,Int.reduceAdd,Int.reduceSub,Int.reduceMul,true_imp_iff,forall_const,Nat.mul_one,Int.reduceToNat,Nat.reducePow,Int.reducePow,Bool.true_and,Bool.false_and,Bool.and_false,h2,h1,hn0,←hF]
  refine hgo _ ?_
  simp (disch:=first|assumption|omega|(simp only [List.length_append,List.length_cons,List.length_nil];omega)) only [go_sem,reduceCtorEq,Nat.reduceEqDiff,Nat.reduceAdd,Nat.reduceSub,Nat.reduceMul,Nat.reduceLeDiff,Int.reduceLT,Int.reduceLE,Int.reduceEq,↓reduceIte,Int.reduceNeg,Int.reduceAdd,Int.reduceSub,Int.reduceMul,true_imp_iff,forall_const,Nat.mul_one,Int.reduceToNat,Nat.reducePow,Int.reducePow,Bool.true_and,Bool.false_and,Bool.and_false]
  rw [e1]
end Go.A
namespace Go.A
open Go.Proofs
def rp:List UInt8->Nat->List UInt8->List UInt8->Option (List UInt8×List UInt8×Nat)
 | [],d,w,p=>some (w,p,d)
 | c::l,d,w,p=>if c=46 then rp l (d+1) w p else if c.toNat<48\/57<c.toNat then none else if d=0 then rp l d (w ++ [c]) p else rp l d w (p ++ [c])
theorem rp_bad:∀ (x:List UInt8) (d:Nat) (w p:List UInt8),rp x (d+2) w p=none\/∃ p' k,rp x (d+2) w p=some (w,p',k+2)
 | [],d,w,p => .inr ⟨p,d,rfl⟩
 | c::l,d,w,p=>by
   rw [rp]
   split
   ·exact rp_bad l (d+1) w p
   ·split
    ·exact .inl rfl
    ·rw [if_neg (by omega)]
     exact rp_bad l d w _
theorem not_dot {c:UInt8} (h:48<=c.toNat/\c.toNat<=57):c≠46:=ne_of_digit h.1 (by decide)
theorem rp_all1:∀ (x:List UInt8) (w p:List UInt8),AllD x->rp x 1 w p=some (w,p++x,1)
 | [],w,p,_=>by simp [rp]
 | c::l,w,p,h=>by
   have hc:=h c (List.mem_cons_self)
   rw [rp,if_neg (not_dot hc),if_neg (by omega),if_neg (by omega),rp_all1 l w _ (fun d hd=>h d (List.mem_cons_of_mem _ hd))]
   simp
theorem rp_bad1:∀ (x:List UInt8) (w p:List UInt8),¬ AllD x->rp x 1 w p=none\/∃ p' k,rp x 1 w p=some (w,p',k+2)
 | [],w,p,h=>absurd (fun _ hc=>by cases hc) h
 | c::l,w,p,h=>by
   rw [rp]
   split
   ·exact rp_bad l 0 w p
   ·split
    ·exact .inl rfl
    ·rw [if_neg (by omega)]
     refine rp_bad1 l w _ fun hl=>h fun d hd=>?_
     rcases List.mem_cons.1 hd with rfl|hd
     ·omega
     ·exact hl d hd
theorem rp_all0:∀ (x:List UInt8) (w:List UInt8),AllD x->rp x 0 w []=some (w++x,[],0)
 | [],w,_=>by simp [rp]
 | c::l,w,h=>by
   have hc:=h c (List.mem_cons_self)
   rw [rp,if_neg (not_dot hc),if_neg (by omega),if_pos rfl,rp_all0 l _ (fun d hd=>h d (List.mem_cons_of_mem _ hd))]
   simp
theorem rp_bad0:∀ (x:List UInt8) (w:List UInt8),(∀ b∈x,b≠46)->¬ AllD x->rp x 0 w []=none
 | [],w,_,h=>absurd (fun _ hc=>by cases hc) h
 | c::l,w,h6,h=>by
   rw [rp,if_neg (h6 c (List.mem_cons_self))]
   split
   ·rfl
   ·rw [if_pos rfl]
    refine rp_bad0 l _ (fun b hb=>h6 b (List.mem_cons_of_mem _ hb)) fun hl=>h fun d hd=>?_
    rcases List.mem_cons.1 hd with rfl|hd
    ·omega
    ·exact hl d hd
theorem rp_app0:∀ (a x:List UInt8) (w:List UInt8),AllD a->rp (a++46::x) 0 w []=rp x 1 (w++a) []
 | [],x,w,_=>by simp [rp]
 | c::l,x,w,h=>by
   have hc:=h c (List.mem_cons_self)
   rw [List.cons_append,rp,if_neg (not_dot hc),if_neg (by omega),if_pos rfl,rp_app0 l x _ (fun d hd=>h d (List.mem_cons_of_mem _ hd))]
   simp
theorem rp_appBad:∀ (a x:List UInt8) (w:List UInt8),(∀ b∈a,b≠46)->¬ AllD a->rp (a++x) 0 w []=none
 | [],x,w,_,h=>absurd (fun _ hc=>by cases hc) h
 | c::l,x,w,h6,h=>by
   rw [List.cons_append,rp,if_neg (h6 c (List.mem_cons_self))]
   split
   ·rfl
   ·rw [if_pos rfl]
    refine rp_appBad l x _ (fun b hb=>h6 b (List.mem_cons_of_mem _ hb)) fun hl=>h fun d hd=>?_
    rcases List.mem_cons.1 hd with rfl|hd
    ·omega
    ·exact hl d hd
theorem acc_bad:∀ (l:List UInt8) (n:Nat),¬ AllD l->accP n l=none
 | [],n,h=>absurd (fun _ hc=>by cases hc) h
 | c::l,n,h=>by
   rw [accP]
   split
   ·rfl
   ·refine acc_bad l _ fun hl=>h fun d hd=>?_
    rcases List.mem_cons.1 hd with rfl|hd
    ·omega
    ·exact hl d hd
def rpEnd (m:Bool):Option (List UInt8×List UInt8×Nat)->Option Int
 | none=>none
 | some (w,p,d)=>if 1<d\/w = []\/d=1/\p = []\/4<p.length then none else valP m (stripP (w++(p++List.replicate (4-p.length) 48)))
theorem first_dot (s:List UInt8):(∀ b∈s,b≠46)\/∃ a x,s=a++46::x/\∀ b∈a,b≠46:=by
 induction s with
 | nil=>exact .inl fun _ h=>by cases h
 | cons c l ih=>
   by_cases hc:c=46
   ·subst hc
    exact .inr ⟨[],l,rfl,fun _ h=>by cases h⟩
   ·rcases ih with h|⟨a,x,rfl,h⟩
    ·refine .inl fun b hb=>?_
     rcases List.mem_cons.1 hb with rfl|hb
     ·exact hc
     ·exact h b hb
    ·refine .inr ⟨c::a,x,rfl,fun b hb=>?_⟩
     rcases List.mem_cons.1 hb with rfl|hb
     ·exact hc
     ·exact h b hb
theorem acc_val {m:Bool} {l:List UInt8} (h:AllD l):(accP 0 l).bind (madeP m)=valP m (stripP l):=by
 have htot:=acc_total h (n:=0) (by omega)
 rw [Nat.zero_mul,Nat.zero_add] at htot
 rw [htot]
 unfold valP
 rw [nv_strip]
 by_cases hb:nv l<=999999999999999999
 ·rw [if_pos hb];rfl
 ·rw [if_neg hb]
  unfold madeP
  rw [if_neg hb];rfl
theorem rp_parse (m:Bool) (s:List UInt8):rpEnd m (rp s 0 [] [])=parseQ m (Lib.cut s [46]).1 (Lib.cut s [46]).2.1 (Lib.cut s [46]).2.2:=by
 rcases first_dot s with h|⟨a,x,rfl,h⟩
 ·rw [cut_none 46 s h]
  unfold parseQ
  by_cases hd:AllD s
  ·rw [rp_all0 s [] hd]
   simp only [rpEnd,List.nil_append]
   by_cases hs:s = []
   ·rw [if_pos (by simp [hs]),if_pos (by simp [hs])]
   ·rw [if_neg (by simp [hs]),if_neg (by simp [hs]),List.append_nil,acc_val (allD_app hd (allD_zeros _))]
  ·rw [rp_bad0 s [] h hd]
   have hne:s ≠ []:=fun e=>hd (e▸fun _ hc=>by cases hc)
   rw [if_neg (by simp [hne]),List.append_nil,acc_bad]
   ·rfl
   ·exact fun hl=>hd fun d hd=>hl d (List.mem_append_left _ hd)
 ·rw [cut_one 46 a x h]
  unfold parseQ
  by_cases hd:AllD a
  ·rw [rp_app0 a x [] hd,List.nil_append]
   by_cases hx:AllD x
   ·rw [rp_all1 x a [] hx]
    simp only [rpEnd,List.nil_append]
    by_cases hg:a = []\/x = []\/4<x.length
    ·rw [if_pos (by rcases hg with h|h|h<;>simp [h]),if_pos (by rcases hg with h|h|h<;>simp [h])]
    ·have g1:a ≠ []:=fun e=>hg (.inl e)
     have g2:x ≠ []:=fun e=>hg (.inr (.inl e))
     have g3:¬ 4<x.length:=fun e=>hg (.inr (.inr e))
     rw [if_neg (by rintro (h|h|⟨_,h⟩|h)<;>first|omega|contradiction),if_neg (by rintro (h|⟨_,h|h⟩)<;>contradiction),List.append_assoc,acc_val (allD_app hd (allD_app hx (allD_zeros _)))]
   ·have hnone:(accP 0 (a++x++List.replicate (4-x.length) 48)).bind (madeP m)=none:=by
     rw [acc_bad]
     ·rfl
     ·exact fun hl=>hx fun d hd=>hl d (List.mem_append_left _ (List.mem_append_right _ hd))
    rw [hnone]
    have hr:rpEnd m (rp x 1 a [])=none:=by
     rcases rp_bad1 x a [] hx with e|⟨p',k,e⟩<;>rw [e]
     ·rfl
     ·simp only [rpEnd]
      exact if_pos (Or.inl (by omega))
    rw [hr]
    split<;>rfl
  ·rw [rp_appBad a _ [] h hd]
   have hnone:(accP 0 (a++x++List.replicate (4-x.length) 48)).bind (madeP m)=none:=by
    rw [acc_bad]
    ·rfl
    ·exact fun hl=>hd fun d hd=>hl d (List.mem_append_left _ (List.mem_append_left _ hd))
   rw [hnone]
   split<;>rfl
end Go.A
namespace Go.A
open Go.Proofs
theorem take_one {s:List UInt8} {i:Nat} {c:UInt8} (h:s[i]? = some c):(s.take (i+1)).drop i = [c]:=by
 obtain ⟨hl,hc⟩:=List.getElem?_eq_some_iff.1 h
 rw [List.take_add_one,h,Option.toList_some,List.drop_append,List.drop_of_length_le (by rw [List.length_take];omega),List.length_take,Nat.min_eq_left (by omega),Nat.sub_self]
 rfl
theorem allD_nil:AllD []:=fun _ h=>by cases h
set_option maxHeartbeats 1000000 in
theorem rparse_ok (s:List UInt8) (hs:s.length<=100000):Pure Tryz.prog 75 [.str s] (resAV (parseD s)):=by
 intro σ
 obtain ⟨F,hF⟩:∃ F,F=ACode.wp Tryz.prog c75_50:=⟨_,rfl⟩
 have fin:∀ (a:AFr) (m:Bool) (b:List UInt8),b.length<=100000->(a 0 = .str b/\a 4 = .bool m)->F (RetQ [.t 2,.t 3] fun v σ'=>v=resAV (rpEnd m (rp b 0 [] []))/\σ'=σ) a σ:=by
  intro a m b hb hf
  rw [hF]
  obtain ⟨G,hG⟩:∃ G,G=ACode.wp Tryz.prog c75_48:=⟨_,rfl⟩
  have fin2:∀ (a:AFr) (w p:List UInt8) (d:Nat),w.length+p.length<=100000->d<=100000->(a 4 = .bool m/\a 5 = .str w/\a 6 = .str p/\a 7 = .int .i64 d)->(AllD w/\AllD p)->G (RetQ [.t 2,.t 3] fun v σ'=>v=resAV (rpEnd m (some (w,p,d)))/\σ'=σ) a σ:=by
   intro a w p d hwp hd hf ⟨hw,hp⟩
   rw [hG]
   simp only [rpEnd]
   by_cases h1:1<d
   ·have h1':(1:Int)<d:=by omega
    rw [if_pos (.inl h1)]
    simp (disch:=first|assumption|omega|(simp only [List.length_append,List.length_cons,List.length_nil];omega)) only [go_sem,reduceCtorEq,Nat.reduceEqDiff,Nat.reduceAdd,Nat.reduceSub,Nat.reduceMul,Nat.reduceLeDiff,Int.reduceLT,Int.reduceLE,Int.reduceEq,↓reduceIte,Int.reduceNeg,Int.reduceAdd,Int.reduceSub,Int.reduceMul,true_imp_iff,forall_const,Nat.mul_one,Int.reduceToNat,Nat.reducePow,Int.reducePow,Bool.true_and,Bool.false_and,Bool.and_false,hf,h1']
    exact retC_by (by repeat' (first|exact Drop.refl _|with_reducible refine Drop.off ?_ (by assumption))) (.refl _) ⟨rfl,rfl⟩
   have h1':¬ (1:Int)<d:=by omega
   by_cases h2:w = []
   ·subst h2
    rw [if_pos (.inr (.inl rfl))]
    simp (disch:=first|assumption|omega|(simp only [List.length_append,List.length_cons,List.length_nil];omega)) only [go_sem,reduceCtorEq,Nat.reduceEqDiff,Nat.reduceAdd,Nat.reduceSub,Nat.reduceMul,Nat.reduceLeDiff,Int.reduceLT,Int.reduceLE,Int.reduceEq,↓reduceIte,Int.reduceNeg,Int.reduceAdd,Int.reduceSub,Int.reduceMul,true_imp_iff,forall_const,Nat.mul_one,Int.reduceToNat,Nat.reducePow,Int.reducePow,Bool.true_and,Bool.false_and,Bool.and_false,hf,h1']
    exact retC_by (by repeat' (first|exact Drop.refl _|with_reducible refine Drop.off ?_ (by assumption))) (.refl _) ⟨rfl,rfl⟩
   have h2':¬ (w.length:Int)=0:=by
    have:=List.length_pos_iff.2 h2
    omega
   by_cases h3:d=1/\p = []
   ·obtain ⟨rfl,rfl⟩:=h3
    rw [if_pos (.inr (.inr (.inl ⟨rfl,rfl⟩)))]
    have e1:((1:Nat):Int)=1:=rfl
    simp (disch:=first|assumption|omega|(simp only [List.length_append,List.length_cons,List.length_nil];omega)) only [go_sem,reduceCtorEq,Nat.reduceEqDiff,Nat.reduceAdd,Nat.reduceSub,Nat.reduceMul,Nat.reduceLeDiff,Int.reduceLT,Int.reduceLE,Int.reduceEq,↓reduceIte,Int.reduceNeg,Int.reduceAdd,Int.reduceSub,Int.reduceMul,true_imp_iff,forall_const,Nat.mul_one,Int.reduceToNat,Nat.reducePow,Int.reducePow,Bool.true_and,Bool.false_and,Bool.and_false,hf,h1',h2',e1]
    exact retC_by (by repeat' (first|exact Drop.refl _|with_reducible refine Drop.off ?_ (by assumption))) (.refl _) ⟨rfl,rfl⟩
   have h3':¬ ((d:Int)=1/\(p.length:Int)=0):=by
    rintro ⟨e1,e2⟩
    exact h3 ⟨by omega,List.eq_nil_of_length_eq_zero (by omega)⟩
   by_cases h4:4<p.length
   ·have h4':(4:Int)<p.length:=by omega
    rw [if_pos (.inr (.inr (.inr h4)))]
    by_cases hd1:(d:Int)=1
    ·have hp0:¬ (p.length:Int)=0:=by omega
     simp (disch:=first|assumption|omega|(simp only [List.length_append,List.length_cons,List.length_nil];omega)) only [go_sem,reduceCtorEq,Nat.reduceEqDiff,Nat.reduceAdd,Nat.reduceSub,Nat.reduceMul,Nat.reduceLeDiff,Int.reduceLT,Int.reduceLE,Int.reduceEq,↓reduceIte,Int.reduceNeg,Int.reduceAdd,Int.reduceSub,Int.reduceMul,true_imp_iff,forall_const,Nat.mul_one,Int.reduceToNat,Nat.reducePow,Int.reducePow,Bool.true_and,Bool.false_and,Bool.and_false,hf,h1',h2',hd1,hp0,h4']
     exact retC_by (by repeat' (first|exact Drop.refl _|with_reducible refine Drop.off ?_ (by assumption))) (.refl _) ⟨rfl,rfl⟩
    ·simp (disch:=first|assumption|omega|(simp only [List.length_append,List.length_cons,List.length_nil];omega)) only [go_sem,reduceCtorEq,Nat.reduceEqDiff,Nat.reduceAdd,Nat.reduceSub,Nat.reduceMul,Nat.reduceLeDiff,Int.reduceLT,Int.reduceLE,Int.reduceEq,↓reduceIte,Int.reduceNeg,Int.reduceAdd,Int.reduceSub,Int.reduceMul,true_imp_iff,forall_const,Nat.mul_one,Int.reduceToNat,Nat.reducePow,Int.reducePow,Bool.true_and,Bool.false_and,Bool.and_false,hf,h1',h2',hd1,h4']
     exact retC_by (by repeat' (first|exact Drop.refl _|with_reducible refine Drop.off ?_ (by assumption))) (.refl _) ⟨rfl,rfl⟩
   have h4':¬ (4:Int)<p.length:=by omega
   rw [if_neg (by rintro (h|h|h|h)<;>contradiction)]
   have hT:=strip_ok (w++(p++List.replicate (4-p.length) 48)) (by simp;omega)
   have hV:=value_ok m (stripP (w++(p++List.replicate (4-p.length) 48))) (allD_strip (allD_app hw (allD_app hp (allD_zeros _)))) (by
    have:=(List.dropWhile_sublist (p:=(· == 48)) (l:=w++(p++List.replicate (4-p.length) 48))).length_le
    unfold stripP
    simp at this ⊢
    omega)
   generalize valP m (stripP (w++(p++List.replicate (4-p.length) 48)))=V at *
   simp only [resAV] at hV ⊢
   obtain ⟨H,hH⟩:∃ H,H=ACode.wp Tryz.prog c75_47:=⟨_,rfl⟩
   have fin3:∀ (a:AFr),(a 4 = .bool m/\a 5 = .str w/\a 6 = .str p)->H (RetQ [.t 2,.t 3] fun v σ'=>v = .tuple [.int .i64 (V.getD 0),.bool V.isSome]/\σ'=σ) a σ:=by
    intro a hf
    rw [hH]
    simp (disch:=first|assumption|omega|(simp only [List.length_append,List.length_cons,List.length_nil];omega)) only [go_sem,reduceCtorEq,Nat.reduceEqDiff,Nat.reduceAdd,Nat.reduceSub,Nat.reduceMul,Nat.reduceLeDiff,Int.reduceLT,Int.reduceLE,Int.reduceEq,↓reduceIte,Int.reduceNeg,Int.reduceAdd,Int.reduceSub,Int.reduceMul,true_imp_iff,forall_const,Nat.mul_one,Int.reduceToNat,Nat.reducePow,Int.reducePow,Bool.true_and,Bool.false_and,Bool.and_false,hf]
    refine wp_loop_on (fun (j:Nat) a1 s2=>p.length+j<=4/\(a1 4 = .bool m/\a1 5 = .str w/\a1 6 = .str (p++List.replicate j 48))/\s2=σ) (fun j=>4-j) 0 ⟨by omega,?_,rfl⟩ ?_
    ·simp (disch:=first|assumption|omega|(simp only [List.length_append,List.length_cons,List.length_nil];omega)) only [go_sem,reduceCtorEq,Nat.reduceEqDiff,Nat.reduceAdd,Nat.reduceSub,Nat.reduceMul,Nat.reduceLeDiff,Int.reduceLT,Int.reduceLE,Int.reduceEq,↓reduceIte,Int.reduceNeg,Int.reduceAdd,Int.reduceSub,Int.reduceMul,true_imp_iff,forall_const,Nat.mul_one,Int.reduceToNat,Nat.reducePow,Int.reducePow,Bool.true_and,Bool.false_and,Bool.and_false,hf]
     simp
    rintro j a1 s2 ⟨hj,hf,rfl⟩
    obtain ⟨X,hX⟩:∃ X,p++List.replicate j 48=X:=⟨_,rfl⟩
    have hXl:X.length=p.length+j:=by rw [<-hX];simp
    rw [hX] at hf
    by_cases hlt:p.length+j<4
    ·have g3:(X.length:Int)<4:=by omega
     have e1:binS .add X [48]=some (.str (p++List.replicate (j+1) 48)):=by
      rw [binS_add (by simp;omega),List.replicate_succ',← List.append_assoc,hX]
     simp (disch:=first|assumption|omega|(simp only [List.length_append,List.length_cons,List.length_nil];omega)) only [go_sem,reduceCtorEq,Nat.reduceEqDiff,Nat.reduceAdd,Nat.reduceSub,Nat.reduceMul,Nat.reduceLeDiff,Int.reduceLT,Int.reduceLE,Int.reduceEq,↓reduceIte,Int.reduceNeg,Int.reduceAdd,Int.reduceSub,Int.reduceMul,true_imp_iff,forall_const,Nat.mul_one,Int.reduceToNat,Nat.reducePow,Int.reducePow,Bool.true_and,Bool.false_and,Bool.and_false,hf,g3,e1]
     exact ⟨j+1,by omega,by omega,rfl⟩
    ·have g3:¬ (X.length:Int)<4:=by omega
     obtain rfl:j=4-p.length:=by omega
     rw [hX] at hT hV
     have e1:binS .add w X=some (.str (w++X)):=binS_add (by omega)
     simp (disch:=first|assumption|omega|(simp only [List.length_append,List.length_cons,List.length_nil];omega)) only [go_sem,reduceCtorEq,Nat.reduceEqDiff,Nat.reduceAdd,Nat.reduceSub,Nat.reduceMul,Nat.reduceLeDiff,Int.reduceLT,Int.reduceLE,Int.reduceEq,↓reduceIte,Int.reduceNeg,Int.reduceAdd,Int.reduceSub,Int.reduceMul,true_imp_iff,forall_const,Nat.mul_one,Int.reduceToNat,Nat.reducePow,Int.reducePow,Bool.true_and,Bool.false_and,Bool.and_false,hf,g3,e1]
     refine hT.use ?_
     simp (disch:=first|assumption|omega|(simp only [List.length_append,List.length_cons,List.length_nil];omega)) only [go_sem,reduceCtorEq,Nat.reduceEqDiff,Nat.reduceAdd,Nat.reduceSub,Nat.reduceMul,Nat.reduceLeDiff,Int.reduceLT,Int.reduceLE,Int.reduceEq,↓reduceIte,Int.reduceNeg,Int.reduceAdd,Int.reduceSub,Int.reduceMul,true_imp_iff,forall_const,Nat.mul_one,Int.reduceToNat,Nat.reducePow,Int.reducePow,Bool.true_and,Bool.false_and,Bool.and_false,hf]
     refine hV.use ?_
     simp (disch:=first|assumption|omega|(simp only [List.length_append,List.length_cons,List.length_nil];omega)) only [go_sem,reduceCtorEq,Nat.reduceEqDiff,Nat.reduceAdd,Nat.reduceSub,Nat.reduceMul,Nat.reduceLeDiff,Int.reduceLT,Int.reduceLE,Int.reduceEq,↓reduceIte,Int.reduceNeg,Int.reduceAdd,Int.reduceSub,Int.reduceMul,true_imp_iff,forall_const,Nat.mul_one,Int.reduceToNat,Nat.reducePow,Int.reducePow,Bool.true_and,Bool.false_and,Bool.and_false]
     exact retC_by (by repeat' (first|exact Drop.refl _|with_reducible refine Drop.off ?_ (by assumption))) (.refl _) ⟨rfl,rfl⟩
   by_cases hd1:(d:Int)=1
   ·have hp0:¬ (p.length:Int)=0:=fun h=>h3' ⟨hd1,h⟩
    simp (disch:=first|assumption|omega|(simp only [List.length_append,List.length_cons,List.length_nil];omega)) only [go_sem,reduceCtorEq,Nat.reduceEqDiff,Nat.reduceAdd,Nat.reduceSub,Nat.reduceMul,Nat.reduceLeDiff,Int.reduceLT,Int.reduceLE,Int.reduceEq,↓reduceIte,Int.reduceNeg,Int.reduceAdd,Int.reduceSub,Int.reduceMul,true_imp_iff,forall_const,Nat.mul_one,Int.reduceToNat,Nat.reducePow,Int.reducePow,Bool.true_and,Bool.false_and,Bool.and_false,hf,h1',h2',hd1,hp0,h4',←hH]
    refine fin3 _ ?_
    simp (disch:=first|assumption|omega|(simp only [List.length_append,List.length_cons,List.length_nil];omega)) only [go_sem,reduceCtorEq,Nat.reduceEqDiff,Nat.reduceAdd,Nat.reduceSub,Nat.reduceMul,Nat.reduceLeDiff,Int.reduceLT,Int.reduceLE,Int.reduceEq,↓reduceIte,Int.reduceNeg,Int.reduceAdd,Int.reduceSub,Int.reduceMul,true_imp_iff,forall_const,Nat.mul_one,Int.reduceToNat,Nat.reducePow,Int.reducePow,Bool.true_and,Bool.false_and,Bool.and_false,hf]
   ·simp (disch:=first|assumption|omega|(simp only [List.length_append,List.length_cons,List.length_nil];omega)) only [go_sem,reduceCtorEq,Nat.reduceEqDiff,Nat.reduceAdd,Nat.reduceSub,Nat.reduceMul,Nat.reduceLeDiff,Int.reduceLT,Int.reduceLE,Int.reduceEq,↓reduceIte,Int.reduceNeg,Int.reduceAdd,Int.reduceSub,Int.reduceMul,true_imp_iff,forall_const,Nat.mul_one,Int.reduceToNat,Nat.reducePow,Int.reducePow,Bool.true_and,Bool.false_and,Bool.and_false,hf,h1',h2',hd1,h4',←hH]
    refine fin3 _ ?_
    simp (disch:=first|assumption|omega|(simp only [List.length_append,List.length_cons,List.length_nil];omega)) only [go_sem,reduceCtorEq,Nat.reduceEqDiff,Nat.reduceAdd,Nat.reduceSub,Nat.reduceMul,Nat.reduceLeDiff,Int.reduceLT,Int.reduceLE,Int.reduceEq,↓reduceIte,Int.reduceNeg,Int.reduceAdd,Int.reduceSub,Int.reduceMul,true_imp_iff,forall_const,Nat.mul_one,Int.reduceToNat,Nat.reducePow,Int.reducePow,Bool.true_and,Bool.false_and,Bool.and_false,hf]
  simp (disch:=first|assumption|omega|(simp only [List.length_append,List.length_cons,List.length_nil];omega)) only [go_sem,reduceCtorEq,Nat.reduceEqDiff,Nat.reduceAdd,Nat.reduceSub,Nat.reduceMul,Nat.reduceLeDiff,Int.reduceLT,Int.reduceLE,Int.reduceEq,↓reduceIte,Int.reduceNeg,Int.reduceAdd,Int.reduceSub,Int.reduceMul,true_imp_iff,forall_const,Nat.mul_one,Int.reduceToNat,Nat.reducePow,Int.reducePow,Bool.true_and,Bool.false_and,Bool.and_false,←hG]
  refine wp_loop_on (fun (i:Nat) a1 s2=>i<=b.length/\(∃ (w p:List UInt8) (d:Nat),rp b 0 [] []=rp (b.drop i) d w p/\w.length+p.length<=i/\d<=i/\(AllD w/\AllD p)/\(a1 5 = .str w/\a1 6 = .str p/\a1 7 = .int .i64 d))/\(a1 0 = .str b/\a1 4 = .bool m/\a1 8 = .int .i64 i)/\s2=σ) (fun i=>b.length-i) 0 ⟨Nat.zero_le _,⟨[],[],0,rfl,by simp,by omega,⟨allD_nil,allD_nil⟩,?_⟩,?_,rfl⟩ ?_
  ·simp (disch:=first|assumption|omega|(simp only [List.length_append,List.length_cons,List.length_nil];omega)) only [go_sem,reduceCtorEq,Nat.reduceEqDiff,Nat.reduceAdd,Nat.reduceSub,Nat.reduceMul,Nat.reduceLeDiff,Int.reduceLT,Int.reduceLE,Int.reduceEq,↓reduceIte,Int.reduceNeg,Int.reduceAdd,Int.reduceSub,Int.reduceMul,true_imp_iff,forall_const,Nat.mul_one,Int.reduceToNat,Nat.reducePow,Int.reducePow,Bool.true_and,Bool.false_and,Bool.and_false,hf]
  ·simp (disch:=first|assumption|omega|(simp only [List.length_append,List.length_cons,List.length_nil];omega)) only [go_sem,reduceCtorEq,Nat.reduceEqDiff,Nat.reduceAdd,Nat.reduceSub,Nat.reduceMul,Nat.reduceLeDiff,Int.reduceLT,Int.reduceLE,Int.reduceEq,↓reduceIte,Int.reduceNeg,Int.reduceAdd,Int.reduceSub,Int.reduceMul,true_imp_iff,forall_const,Nat.mul_one,Int.reduceToNat,Nat.reducePow,Int.reducePow,Bool.true_and,Bool.false_and,Bool.and_false,hf]
  rintro i a1 s2 ⟨hi,⟨w,p,d,hr,hl,hdi,⟨hw,hp⟩,hg⟩,hf,rfl⟩
  by_cases hlt:i<b.length
  ·have hidx : b[i]? = some (b[i]'hlt) := List.getElem?_eq_getElem hlt
   rw [List.drop_eq_getElem_cons hlt] at hr
   obtain ⟨c, hc⟩ : ∃ c, b[i]'hlt = c := ⟨_, rfl⟩
   rw [hc] at hidx hr
   have ht1:=take_one hidx
   have hn1:((i:Int)+1).toNat=i+1:=by omega
   have hlt':(i:Int)<b.length:=by omega
   have hlt2:(i:Int)+1<=b.length:=by omega
   rw [rp] at hr
   by_cases h46:c=46
   ·have h46':(c.toNat:Int)=46:=by rw [h46];rfl
    rw [if_pos h46] at hr
    simp (disch:=first|assumption|omega|(simp only [List.length_append,List.length_cons,List.length_nil];omega)) only [go_sem,reduceCtorEq,Nat.reduceEqDiff,Nat.reduceAdd,Nat.reduceSub,Nat.reduceMul,Nat.reduceLeDiff,Int.reduceLT,Int.reduceLE,Int.reduceEq,↓reduceIte,Int.reduceNeg,Int.reduceAdd,Int.reduceSub,Int.reduceMul,true_imp_iff,forall_const,Nat.mul_one,Int.reduceToNat,Nat.reducePow,Int.reducePow,Bool.true_and,Bool.false_and,Bool.and_false,hf,hg,hlt',hidx,h46']
    exact ⟨i+1,by omega,by omega,⟨w,p,d+1,hr,by omega,by omega,⟨hw,hp⟩,rfl,rfl,rfl⟩,rfl⟩
   have h46':¬ (c.toNat:Int)=46:=fun h=>h46 (UInt8.toNat_inj.1 (by have e:(46:UInt8).toNat=46:=rfl;omega))
   rw [if_neg h46] at hr
   by_cases h1:c.toNat<48
   ·have h1':(c.toNat:Int)<48:=by omega
    rw [if_pos (.inl h1)] at hr
    rw [hr]
    simp (disch:=first|assumption|omega|(simp only [List.length_append,List.length_cons,List.length_nil];omega)) only [go_sem,reduceCtorEq,Nat.reduceEqDiff,Nat.reduceAdd,Nat.reduceSub,Nat.reduceMul,Nat.reduceLeDiff,Int.reduceLT,Int.reduceLE,Int.reduceEq,↓reduceIte,Int.reduceNeg,Int.reduceAdd,Int.reduceSub,Int.reduceMul,true_imp_iff,forall_const,Nat.mul_one,Int.reduceToNat,Nat.reducePow,Int.reducePow,Bool.true_and,Bool.false_and,Bool.and_false,hf,hg,hlt',hidx,h46',h1']
    exact retC_by (by repeat' (first|exact Drop.refl _|with_reducible refine Drop.off ?_ (by assumption))) (.refl _) ⟨rfl,rfl⟩
   have h1':¬ (c.toNat:Int)<48:=by omega
   by_cases h2:57<c.toNat
   ·have h2':(57:Int)<c.toNat:=by omega
    rw [if_pos (.inr h2)] at hr
    rw [hr]
    simp (disch:=first|assumption|omega|(simp only [List.length_append,List.length_cons,List.length_nil];omega)) only [go_sem,reduceCtorEq,Nat.reduceEqDiff,Nat.reduceAdd,Nat.reduceSub,Nat.reduceMul,Nat.reduceLeDiff,Int.reduceLT,Int.reduceLE,Int.reduceEq,↓reduceIte,Int.reduceNeg,Int.reduceAdd,Int.reduceSub,Int.reduceMul,true_imp_iff,forall_const,Nat.mul_one,Int.reduceToNat,Nat.reducePow,Int.reducePow,Bool.true_and,Bool.false_and,Bool.and_false,hf,hg,hlt',hidx,h46',h1',h2']
    exact retC_by (by repeat' (first|exact Drop.refl _|with_reducible refine Drop.off ?_ (by assumption))) (.refl _) ⟨rfl,rfl⟩
   have h2':¬ (57:Int)<c.toNat:=by omega
   rw [if_neg (by omega)] at hr
   have hcD:AllD [c]:=fun x hx=>by rw [List.mem_singleton.1 hx];omega
   by_cases hd0:d=0
   ·have hd0':(d:Int)=0:=by omega
    rw [if_pos hd0] at hr
    have e1:binS .add w [c]=some (.str (w ++ [c])):=binS_add (by simp;omega)
    simp (disch:=first|assumption|omega|(simp only [List.length_append,List.length_cons,List.length_nil];omega)) only [go_sem,reduceCtorEq,Nat.reduceEqDiff,Nat.reduceAdd,Nat.reduceSub,Nat.reduceMul,Nat.reduceLeDiff,Int.reduceLT,Int.reduceLE,Int.reduceEq,↓reduceIte,Int.reduceNeg,Int.reduceAdd,Int.reduceSub,Int.reduceMul,true_imp_iff,forall_const,Nat.mul_one,Int.reduceToNat,Nat.reducePow,Int.reducePow,Bool.true_and,Bool.false_and,Bool.and_false,hf,hg,hlt',hlt2,hidx,h46',h1',h2',hd0',hn1,ht1,e1]
    exact ⟨i+1,by omega,by omega,⟨w ++ [c],p,d,hr,by simp;omega,by omega,⟨allD_app hw hcD,hp⟩,by rw [hd0'];exact ⟨rfl,rfl,rfl⟩⟩,rfl⟩
   ·have hd0':¬ (d:Int)=0:=by omega
    rw [if_neg hd0] at hr
    have e1:binS .add p [c]=some (.str (p ++ [c])):=binS_add (by simp;omega)
    simp (disch:=first|assumption|omega|(simp only [List.length_append,List.length_cons,List.length_nil];omega)) only [go_sem,reduceCtorEq,Nat.reduceEqDiff,Nat.reduceAdd,Nat.reduceSub,Nat.reduceMul,Nat.reduceLeDiff,Int.reduceLT,Int.reduceLE,Int.reduceEq,↓reduceIte,Int.reduceNeg,Int.reduceAdd,Int.reduceSub,Int.reduceMul,true_imp_iff,forall_const,Nat.mul_one,Int.reduceToNat,Nat.reducePow,Int.reducePow,Bool.true_and,Bool.false_and,Bool.and_false,hf,hg,hlt',hlt2,hidx,h46',h1',h2',hd0',hn1,ht1,e1]
    exact ⟨i+1,by omega,by omega,⟨w,p ++ [c],d,hr,by simp;omega,by omega,⟨hw,allD_app hp hcD⟩,rfl,rfl,rfl⟩,rfl⟩
  ·have hlt':¬ (i:Int)<b.length:=by omega
   rw [List.drop_eq_nil_of_le (by omega),rp] at hr
   rw [hr]
   simp (disch:=first|assumption|omega|(simp only [List.length_append,List.length_cons,List.length_nil];omega)) only [go_sem,reduceCtorEq,Nat.reduceEqDiff,Nat.reduceAdd,Nat.reduceSub,Nat.reduceMul,Nat.reduceLeDiff,Int.reduceLT,Int.reduceLE,Int.reduceEq,↓reduceIte,Int.reduceNeg,Int.reduceAdd,Int.reduceSub,Int.reduceMul,true_imp_iff,forall_const,Nat.mul_one,Int.reduceToNat,Nat.reducePow,Int.reducePow,Bool.true_and,Bool.false_and,Bool.and_false,hf,hlt',←hG]
   refine fin2 _ w p d (by omega) (by omega) ?_ ⟨hw,hp⟩
   simp (disch:=first|assumption|omega|(simp only [List.length_append,List.length_cons,List.length_nil];omega)) only [go_sem,reduceCtorEq,Nat.reduceEqDiff,Nat.reduceAdd,Nat.reduceSub,Nat.reduceMul,Nat.reduceLeDiff,Int.reduceLT,Int.reduceLE,Int.reduceEq,↓reduceIte,Int.reduceNeg,Int.reduceAdd,Int.reduceSub,Int.reduceMul,true_imp_iff,forall_const,Nat.mul_one,Int.reduceToNat,Nat.reducePow,Int.reducePow,Bool.true_and,Bool.false_and,Bool.and_false,hf,hg]
 unfold parseD
 dsimp only
 rw [<-rp_parse]
 refine a75 (by simp) ?_
 cases s with
 | nil=>
   simp only [List.head?_nil,reduceCtorEq,if_false,decide_false]
   simp (disch:=first|assumption|omega|(simp only [List.length_append,List.length_cons,List.length_nil];omega)) only [go_sem,reduceCtorEq,Nat.reduceEqDiff,Nat.reduceAdd,Nat.reduceSub,Nat.reduceMul,Nat.reduceLeDiff,Int.reduceLT,Int.reduceLE,Int.reduceEq,↓reduceIte,Int.reduceNeg,Int.reduceAdd,Int.reduceSub,Int.reduceMul,true_imp_iff,forall_const,Nat.mul_one,Int.reduceToNat,Nat.reducePow,Int.reducePow,Bool.true_and,Bool.false_and,Bool.and_false,←hF]
   refine fin _ false [] (by simp) ?_
   simp (disch:=first|assumption|omega|(simp only [List.length_append,List.length_cons,List.length_nil];omega)) only [go_sem,reduceCtorEq,Nat.reduceEqDiff,Nat.reduceAdd,Nat.reduceSub,Nat.reduceMul,Nat.reduceLeDiff,Int.reduceLT,Int.reduceLE,Int.reduceEq,↓reduceIte,Int.reduceNeg,Int.reduceAdd,Int.reduceSub,Int.reduceMul,true_imp_iff,forall_const,Nat.mul_one,Int.reduceToNat,Nat.reducePow,Int.reducePow,Bool.true_and,Bool.false_and,Bool.and_false]
 | cons c l=>
   obtain ⟨t,ht⟩:∃ t,t=c::l:=⟨_,rfl⟩
   have hidx:t[0]? = some c:=by rw [ht];rfl
   have hd1:t.drop 1=l:=by rw [ht];rfl
   have hml:t.length=l.length+1:=by rw [ht];rfl
   have hh:t.head? = some c:=by rw [ht];rfl
   rw [<-ht] at hs ⊢
   rw [hh]
   have g0:(0:Int)<t.length:=by omega
   have g1:(1:Int)<=t.length:=by omega
   by_cases h45:c=45
   ·have h45':(c.toNat:Int)=45:=by rw [h45];rfl
    rw [if_pos (by rw [h45]),decide_eq_true (by rw [h45]),hd1]
    simp (disch:=first|assumption|omega|(simp only [List.length_append,List.length_cons,List.length_nil];omega)) only [go_sem,reduceCtorEq,Nat.reduceEqDiff,Nat.reduceAdd,Nat.reduceSub,Nat.reduceMul,Nat.reduceLeDiff,Int.reduceLT,Int.reduceLE,Int.reduceEq,↓reduceIte,Int.reduceNeg,Int.reduceAdd,Int.reduceSub,Int.reduceMul,true_imp_iff,forall_const,Nat.mul_one,Int.reduceToNat,Nat.reducePow,Int.reducePow,Bool.true_and,Bool.false_and,Bool.and_false,hidx,g0,g1,h45',hd1,List.take_length,←hF]
    refine fin _ true l (by omega) ?_
    simp (disch:=first|assumption|omega|(simp only [List.length_append,List.length_cons,List.length_nil];omega)) only [go_sem,reduceCtorEq,Nat.reduceEqDiff,Nat.reduceAdd,Nat.reduceSub,Nat.reduceMul,Nat.reduceLeDiff,Int.reduceLT,Int.reduceLE,Int.reduceEq,↓reduceIte,Int.reduceNeg,Int.reduceAdd,Int.reduceSub,Int.reduceMul,true_imp_iff,forall_const,Nat.mul_one,Int.reduceToNat,Nat.reducePow,Int.reducePow,Bool.true_and,Bool.false_and,Bool.and_false]
   ·have h45':¬ (c.toNat:Int)=45:=fun h=>h45 (UInt8.toNat_inj.1 (by have e:(45:UInt8).toNat=45:=rfl;omega))
    have hne:¬ (some c=some (45:UInt8)):=by simpa using h45
    rw [if_neg hne,decide_eq_false hne]
    simp (disch:=first|assumption|omega|(simp only [List.length_append,List.length_cons,List.length_nil];omega)) only [go_sem,reduceCtorEq,Nat.reduceEqDiff,Nat.reduceAdd,Nat.reduceSub,Nat.reduceMul,Nat.reduceLeDiff,Int.reduceLT,Int.reduceLE,Int.reduceEq,↓reduceIte,Int.reduceNeg,Int.reduceAdd,Int.reduceSub,Int.reduceMul,true_imp_iff,forall_const,Nat.mul_one,Int.reduceToNat,Nat.reducePow,Int.reducePow,Bool.true_and,Bool.false_and,Bool.and_false,hidx,g0,h45',←hF]
    refine fin _ false t hs ?_
    simp (disch:=first|assumption|omega|(simp only [List.length_append,List.length_cons,List.length_nil];omega)) only [go_sem,reduceCtorEq,Nat.reduceEqDiff,Nat.reduceAdd,Nat.reduceSub,Nat.reduceMul,Nat.reduceLeDiff,Int.reduceLT,Int.reduceLE,Int.reduceEq,↓reduceIte,Int.reduceNeg,Int.reduceAdd,Int.reduceSub,Int.reduceMul,true_imp_iff,forall_const,Nat.mul_one,Int.reduceToNat,Nat.reducePow,Int.reducePow,Bool.true_and,Bool.false_and,Bool.and_false]
end Go.A
namespace Go.A
open Go.Proofs
def intP (n:Int):Option Int:=if n.natAbs<=99999999999999 then some (n*10000) else none
theorem made_hi (m:Bool) {hi lo:Int} (h:0<hi):Pure Tryz.prog 62 [.bool m,.int .u64 hi,.int .u64 lo] (resAV none):=by
 intro σ
 refine a62 (by simp) ?_
 simp (disch:=first|assumption|omega|(simp only [List.length_append,List.length_cons,List.length_nil];omega)) only [go_sem,reduceCtorEq,Nat.reduceEqDiff,Nat.reduceAdd,Nat.reduceSub,Nat.reduceMul,Nat.reduceLeDiff,Int.reduceLT,Int.reduceLE,Int.reduceEq,↓reduceIte,Int.reduceNeg,Int.reduceAdd,Int.reduceSub,Int.reduceMul,true_imp_iff,forall_const,Nat.mul_one,Int.reduceToNat,Nat.reducePow,Int.reducePow,Bool.true_and,Bool.false_and,Bool.and_false,h]
 exact retC_by (by repeat' (first|exact Drop.refl _|with_reducible refine Drop.off ?_ (by assumption))) (.refl _) ⟨rfl,rfl⟩
theorem int_ok (n:Int) (h0 : -9223372036854775808<=n) (h1:n<=9223372036854775807):Pure Tryz.prog 67 [.int .i64 n] (resAV (intP n)):=by
 intro σ
 have hM:=mul64_ok n.natAbs 10000 (by omega) (by omega)
 have hD:Pure Tryz.prog 62 [.bool (decide (n<0)),.int .u64 ((n.natAbs*10000 / 18446744073709551616:Nat):Int),.int .u64 ((n.natAbs*10000 % 18446744073709551616:Nat):Int)] (resAV (intP n)):=by
  unfold intP
  by_cases hb:n.natAbs*10000 / 18446744073709551616=0
  ·rw [hb]
   have:=made_ok (decide (n<0)) (n.natAbs*10000 % 18446744073709551616) (by omega)
   have he:madeP (decide (n<0)) (n.natAbs*10000 % 18446744073709551616)=if n.natAbs<=99999999999999 then some (n*10000) else none:=by
    unfold madeP
    by_cases hs:n.natAbs<=99999999999999
    ·rw [if_pos hs,if_pos (by omega)]
     congr 1
     simp only [decide_eq_true_eq]
     split<;>omega
    ·rw [if_neg hs,if_neg (by omega)]
   rw [he] at this
   exact this
  ·rw [if_neg (by omega)]
   exact made_hi _ (by omega)
 generalize intP n=o at *
 simp only [resAV] at hD ⊢
 obtain ⟨H,hH⟩:∃ H:Int,((n.natAbs*10000 / 18446744073709551616:Nat):Int)=H:=⟨_,rfl⟩
 obtain ⟨L,hL⟩:∃ L:Int,((n.natAbs*10000 % 18446744073709551616:Nat):Int)=L:=⟨_,rfl⟩
 rw [hH,hL] at hM hD
 refine a67 (by simp) ?_
 by_cases hn:n<0
 ·have e1:IntKind.u64.wrap (0-IntKind.u64.wrap n)=((n.natAbs:Nat):Int):=by rw [IntKind.wrap_u64,IntKind.wrap_u64];omega
  simp (disch:=first|assumption|omega|(simp only [List.length_append,List.length_cons,List.length_nil];omega)) only [go_sem,reduceCtorEq,Nat.reduceEqDiff,Nat.reduceAdd,Nat.reduceSub,Nat.reduceMul,Nat.reduceLeDiff,Int.reduceLT,Int.reduceLE,Int.reduceEq,↓reduceIte,Int.reduceNeg,Int.reduceAdd,Int.reduceSub,Int.reduceMul,true_imp_iff,forall_const,Nat.mul_one,Int.reduceToNat,Nat.reducePow,Int.reducePow,Bool.true_and,Bool.false_and,Bool.and_false,hn,e1]
  refine hM.use ?_
  rw [decide_eq_true hn] at hD
  simp (disch:=first|assumption|omega|(simp only [List.length_append,List.length_cons,List.length_nil];omega)) only [go_sem,reduceCtorEq,Nat.reduceEqDiff,Nat.reduceAdd,Nat.reduceSub,Nat.reduceMul,Nat.reduceLeDiff,Int.reduceLT,Int.reduceLE,Int.reduceEq,↓reduceIte,Int.reduceNeg,Int.reduceAdd,Int.reduceSub,Int.reduceMul,true_imp_iff,forall_const,Nat.mul_one,Int.reduceToNat,Nat.reducePow,Int.reducePow,Bool.true_and,Bool.false_and,Bool.and_false,hn]
  refine hD.use ?_
  simp (disch:=first|assumption|omega|(simp only [List.length_append,List.length_cons,List.length_nil];omega)) only [go_sem,reduceCtorEq,Nat.reduceEqDiff,Nat.reduceAdd,Nat.reduceSub,Nat.reduceMul,Nat.reduceLeDiff,Int.reduceLT,Int.reduceLE,Int.reduceEq,↓reduceIte,Int.reduceNeg,Int.reduceAdd,Int.reduceSub,Int.reduceMul,true_imp_iff,forall_const,Nat.mul_one,Int.reduceToNat,Nat.reducePow,Int.reducePow,Bool.true_and,Bool.false_and,Bool.and_false]
  exact retC_by (by repeat' (first|exact Drop.refl _|with_reducible refine Drop.off ?_ (by assumption))) (.refl _) ⟨rfl,rfl⟩
 ·have e1:IntKind.u64.wrap n=((n.natAbs:Nat):Int):=by rw [IntKind.wrap_u64];omega
  simp (disch:=first|assumption|omega|(simp only [List.length_append,List.length_cons,List.length_nil];omega)) only [go_sem,reduceCtorEq,Nat.reduceEqDiff,Nat.reduceAdd,Nat.reduceSub,Nat.reduceMul,Nat.reduceLeDiff,Int.reduceLT,Int.reduceLE,Int.reduceEq,↓reduceIte,Int.reduceNeg,Int.reduceAdd,Int.reduceSub,Int.reduceMul,true_imp_iff,forall_const,Nat.mul_one,Int.reduceToNat,Nat.reducePow,Int.reducePow,Bool.true_and,Bool.false_and,Bool.and_false,hn,e1]
  refine hM.use ?_
  rw [decide_eq_false hn] at hD
  simp (disch:=first|assumption|omega|(simp only [List.length_append,List.length_cons,List.length_nil];omega)) only [go_sem,reduceCtorEq,Nat.reduceEqDiff,Nat.reduceAdd,Nat.reduceSub,Nat.reduceMul,Nat.reduceLeDiff,Int.reduceLT,Int.reduceLE,Int.reduceEq,↓reduceIte,Int.reduceNeg,Int.reduceAdd,Int.reduceSub,Int.reduceMul,true_imp_iff,forall_const,Nat.mul_one,Int.reduceToNat,Nat.reducePow,Int.reducePow,Bool.true_and,Bool.false_and,Bool.and_false,hn]
  refine hD.use ?_
  simp (disch:=first|assumption|omega|(simp only [List.length_append,List.length_cons,List.length_nil];omega)) only [go_sem,reduceCtorEq,Nat.reduceEqDiff,Nat.reduceAdd,Nat.reduceSub,Nat.reduceMul,Nat.reduceLeDiff,Int.reduceLT,Int.reduceLE,Int.reduceEq,↓reduceIte,Int.reduceNeg,Int.reduceAdd,Int.reduceSub,Int.reduceMul,true_imp_iff,forall_const,Nat.mul_one,Int.reduceToNat,Nat.reducePow,Int.reducePow,Bool.true_and,Bool.false_and,Bool.and_false]
  exact retC_by (by repeat' (first|exact Drop.refl _|with_reducible refine Drop.off ?_ (by assumption))) (.refl _) ⟨rfl,rfl⟩
end Go.A
