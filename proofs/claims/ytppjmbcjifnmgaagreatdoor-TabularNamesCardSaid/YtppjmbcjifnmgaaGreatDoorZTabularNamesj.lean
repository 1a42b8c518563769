/- Part 10 of what TabularNames leans on: CodeNzp Nzp CodeNzq Nzq CodeNzr Nzr CodeNzs Nzs CodeNzt Nzt CodeNzu Nzu CodeNzv Nzv CodeNzw Nzw Nzx Nzy Nya CodeNyb Nyb. -/
import Derived.Test.YtppjmbcjifnmgaaGreatDoorProg
import Derived.KernelRfl
import Derived.Test.YtppjmbcjifnmgaaGreatDoorZTabularNamesi
set_option linter.defProp false
set_option linter.unusedSimpArgs false
set_option linter.unusedVariables false
set_option maxRecDepth 100000
namespace Go.A
open Go.Proofs
/-! 67: (*tabular/seq.Seq).tell -/
def c67_41:ACode := .seq (.ops [ oq 12 (.bin .lss (.t 11) (.v (.int .i64 20)))]) (.seq (.cond (.t 12) .skip (.exit 0)) (.seq (.block 1 (.seq (.seq (.ops [ oq 13 (.mv (.t 2)),oq 14 (.nc (.t 13)),oq 15 (.fa 1 (.t 14)),oq 16 (.ld none (.t 15)),oq 17 (.bin .eql (.t 16) (.v (.int .i64 0)))]) (.cond (.t 17) (.seq (.ops [ oq 6 (.mv (.v (.int .i64 0)))]) .ret) .skip)) (.seq (.ops [ oq 19 (.mv (.t 0)),oq 20 (.mv (.t 2)),oq 21 (.nc (.t 20)),oq 22 (.fa 1 (.t 21)),oq 23 (.ld none (.t 22)),oe 24 (.call 35 [(.t 19),(.t 23)]),oq 18 (.mv (.t 24)),oq 25 (.ext 0 (.t 18)),oq 26 (.ext 1 (.t 18)),oq 7 (.mv (.t 25)),oq 8 (.mv (.t 26))]) (.seq (.seq (.ops [ oq 27 (.mv (.t 8)),oq 28 (.bin .neq (.t 27) (.v (.int .i64 0)))]) (.cond (.t 28) (.seq (.ops [ oq 29 (.mv (.t 8)),oq 6 (.mv (.t 29))]) .ret) .skip)) (.seq (.ops [ oq 30 (.mv (.t 7)),oq 31 (.nc (.t 30)),oq 32 (.fa 3 (.t 31)),oq 33 (.ld none (.t 32)),oq 34 (.mv (.t 1)),oe 35 (.call 37 [(.t 33),(.t 34)]),oq 9 (.mv (.t 35))]) (.seq (.seq (.ops [ oq 36 (.mv (.t 9)),oq 37 (.bin .lss (.t 36) (.v (.int .i64 0)))]) (.cond (.t 37) (.seq (.ops [ oq 6 (.mv (.v (.int .i64 3)))]) .ret) .skip)) (.seq (.ops [ oq 38 (.mv (.t 7)),oq 39 (.nc (.t 38)),oq 40 (.fa 4 (.t 39)),oq 41 (.ld none (.t 40)),oq 42 (.mv (.t 9)),oq 43 (.mv (.t 2)),⟨some 44,none,.e (.call 71 [(.t 43)]),[⟨none,.ld none (.t 40),41⟩]⟩,oq 45 (.ia 1 (.t 41) (.t 42)),oz (.store 1 (.t 45) (.t 44))]) (.seq (.seq (.ops [ oq 46 (.mv (.t 0)),oq 47 (.mv (.t 2)),oq 48 (.nc (.t 47)),oq 49 (.fa 1 (.t 48)),oq 50 (.ld none (.t 49)),oq 51 (.mv (.t 7)),oe 52 (.call 66 [(.t 46),(.t 50),(.t 51)]),oq 10 (.mv (.t 52))]) (.seq (.ops [ oq 53 (.mv (.t 10)),oq 54 (.bin .neq (.t 53) (.v (.int .i64 0)))]) (.cond (.t 54) (.seq (.ops [ oq 55 (.mv (.t 10)),oq 6 (.mv (.t 55))]) .ret) .skip))) (.ops [ oq 56 (.mv (.t 2)),oq 57 (.nc (.t 56)),oq 58 (.fa 1 (.t 57)),oq 59 (.ld none (.t 58)),oq 60 (.mv (.t 7)),oq 1 (.mv (.t 59)),oq 2 (.mv (.t 60))]))))))))) (.ops [ oq 61 (.bin .add (.t 11) (.v (.int .i64 1))),oq 11 (.mv (.t 61))])))
def c67_48:ACode := .seq (.ops [ oq 6 (.mv (.v (.int .i64 0)))]) (.seq (.seq (.ops [ oq 11 (.mv (.v (.int .i64 0)))]) (.block 0 (.loop c67_41))) (.seq (.ops [ oq 6 (.mv (.v (.int .i64 3)))]) .ret))
@[go_sem] def c67_41_wp:=wp_of c67_41.eq_1
@[go_sem] def c67_48_wp:=wp_of c67_48.eq_1
def c67:AFn:=⟨62,[.t 6],c67_48⟩
theorem c67_ok:compF Tryz.prog Tryz.f67=some c67:=by kernel_rfl
theorem a67 {args:List AV} {σ:ASt} {R:AV->ASt->Prop} (hl:args.length<=62) (h:c67_48.wp Tryz.prog (RetQ [.t 6] R) (init args) σ):ACalls Tryz.prog 67 args σ R:=acalls_of Tryz.func67 c67_ok hl h
end Go.A
section
attribute [local go_sem] reduceCtorEq Nat.reduceEqDiff Nat.reduceAdd Nat.reduceSub Nat.reduceMul Nat.reduceLeDiff Int.reduceLT Int.reduceLE Int.reduceEq Int.reduceNeg Int.reduceAdd Int.reduceSub Int.reduceMul true_imp_iff forall_const Nat.mul_one Int.reduceToNat Nat.reducePow Int.reducePow Bool.true_and Bool.false_and Bool.and_false
attribute [local go_sem ↓] reduceIte
namespace Go.A
open Go.Proofs
theorem OwnR.idxI {σ0 σ:ASt} {v:AV} {l:List Nat} (h:OwnR σ0 σ .i64 v l) {i x:Nat} (hl:l.length<=1000) (hi:l[i]? = some x) (hn:∀ j,j<i->l[j]? ≠ some x) :
  ACalls Tryz.prog 37 [v,.int .i64 x] σ fun r σ'=>r = .int .i64 i/\σ'=σ:=by
 have hz:=h.look' (σ':=noRole) fun _ _=>rfl
 exact (xIdxI_ok (kkOf v) (by omega) hi hn).lend trivial (.cons hz (.cons (.refl _) .nil))
section
variable {base base' σ σ':ASt} {p k page t root troot n s up:Nat} {m:Int} {pg:Pgs} {ids ds cs:List Nat} {r:Role}
theorem InnerS.put {y:AV} {Z c i v:Nat} {R:List AV} (h:InnerS base base' n y (.msl Z 0 cs.length c) up ds cs) (hZ:base' Z=some (.obj (kv .i64 cs++R))) (hc:cs.length<=c/\c<=cs.length+R.length/\leaves R=true) :
  InnerS base (base'.set Z (some (.obj (kv .i64 (cs.set i v)++R)))) n y (.msl Z 0 cs.length c) up ds (cs.set i v):=by
 have hZn:=(h.hz.in rfl).1
 have hlen:(cs.set i v).length=cs.length:=List.length_set
 refine ⟨h.kept.set hZn,h.new,?_,h.hy.set (fun e=>h.yz Z e rfl),.inr ⟨Z,c,R,by rw [hlen],ASt.set_same _ _ _,hZn,by rw [hlen];exact hc.1,by rw [hlen];exact hc.2.1,hc.2.2⟩,h.ny,h.nz,h.yz⟩
 rw [ASt.set_ne (fun e=>h.nz (by rw [e];rfl))]
 exact h.hn
theorem SNodeR.up0 (hn:σ n=some r) (hr:SNodeR r (.inner up ds cs)):∃ xs,σ n=some (.obj (.bool false :: .int .i64 up::xs)):=by
 obtain ⟨k1,k2,k3,rfl⟩:=hr
 exact ⟨_,hn⟩
set_option maxHeartbeats 2000000 in
theorem sqtell_ok (h:PoolAt base σ p m k pg) (hs:base s=some (.obj [.ptr p 0,.int .i64 root,.ptr t 0])) (hn:base n=some r) (hr:SNodeR r (.leaf up ids)) (hup:1<=up) {br:List UInt8} (hq:pg up=some br) (hl:SInner br 0 ds cs) {i:Nat} (hi:ds[i]? = some page) (hno:∀ j,j<i->ds[j]? ≠ some page) (hlen:ids.length<=48) :
  ACalls Tryz.prog 67 [.ptr s 0,.int .i64 page,.ptr n 0] σ fun w σ'=>w = .int .i64 0/\∃ b',SInner b' 0 ds (cs.set i ids.length)/\PoolAt base σ' p m k (pset pg up (some b')):=by
 obtain ⟨K,hK⟩:∃ K:AV->ASt->Prop,K=fun w σ'=>w = .int .i64 0/\∃ b',SInner b' 0 ds (cs.set i ids.length)/\PoolAt base σ' p m k (pset pg up (some b')):=⟨_,rfl⟩
 suffices hS:ACalls Tryz.prog 67 [.ptr s 0,.int .i64 page,.ptr n 0] σ K by rw [hK] at hS;exact hS
 have hcount:=sqcount_leaf (n:=n) (σ:=σ) (h.at hn) hr
 have hr0:=hr
 obtain ⟨k1,rfl⟩:=hr
 refine a67 (by simp) ?_
 simp (disch:=first|assumption|omega|(simp only [List.length_append,List.length_cons,List.length_nil];omega)) only [go_sem]
 obtain ⟨J,hJ⟩:∃ J:Nat->AFr->ASt->Prop,J=fun j a1 s2=>(a1 0 = .ptr s 0/\a1 11 = .int .i64 j)/\(j=0/\(a1 1 = .int .i64 page/\a1 2 = .ptr n 0)/\s2=σ\/j=1/\∃ na r3 b',a1 2 = .ptr na 0/\base na=none/\SNodeR r3 (.inner 0 ds (cs.set i ids.length))/\SInner b' 0 ds (cs.set i ids.length)/\PoolAt (base.set na (some r3)) s2 p m k (pset pg up (some b'))):=⟨_,rfl⟩
 refine wp_loop_on J (fun i=>2-i) 0 ?_ ?_
 ·rw [hJ]
  refine ⟨?_,.inl ⟨rfl,?_,rfl⟩⟩
  ·simp (disch:=first|assumption|omega|(simp only [List.length_append,List.length_cons,List.length_nil];omega)) only [go_sem]
  ·simp (disch:=first|assumption|omega|(simp only [List.length_append,List.length_cons,List.length_nil];omega)) only [go_sem]
 intro j a1 s2 hj
 rw [hJ] at hj
 obtain ⟨hf,hc⟩:=hj
 rcases hc with ⟨rfl,hf2,rfl⟩|⟨rfl,na,r3,b',hf2,hna,hr3,hb',hp3⟩
 ·have l0:((0:Nat):Int)<20:=by decide
  have hup0:¬ (up:Int)=0:=by omega
  have hn2:=h.at hn
  simp (disch:=first|assumption|omega|(simp only [List.length_append,List.length_cons,List.length_nil];omega)) only [go_sem,hf,hf2,l0,hn2,hup0]
  refine (sqload_innerM h hs hq hl).mono ?_
  rintro w s3 ⟨na,y,z,base1,rfl,hm,hO,hp⟩
  have hna:=hp.at hm.hn
  have hcy:=hm.hy.cell
  have hcz:=hm.hz.cell
  have hidx:=(hm.hy.mono (σ':=s3) fun X r _ hX=>hp.at hX).idxI (by have:=hl.most;omega) hi hno
  have hil:=(List.getElem?_eq_some_iff.1 hi).1
  have hcl:=hl.n
  have hi0:¬ (i:Int)<0:=by omega
  have hn3:=hp.at (hm.kept _ _ hn)
  have hcount3:=sqcount_leaf (n:=n) (σ:=s3) hn3 hr0
  simp (disch:=first|assumption|omega|(simp only [List.length_append,List.length_cons,List.length_nil];omega)) only [go_sem,hf,hf2,hna,hcy,hcz]
  refine hidx.mono ?_
  rintro w s4 ⟨rfl,rfl⟩
  obtain ⟨Z,cc,R,rfl,hZ1,hZ2,hZ3⟩:=hm.hz.resolve_left fun q=>by rw [q.2] at hcl;simp at hcl;omega
  have hZ:=hp.at hZ1
  have hil':(i:Int)<(cs.length:Int):=by omega
  have hst:i+1<=(kv .i64 cs).length+R.length:=by rw [kv_len];omega
  simp (disch:=first|assumption|omega|(simp only [List.length_append,List.length_cons,List.length_nil];omega)) only [go_sem,hf,hf2,hna,hcy,hi0]
  refine hcount3.mono ?_
  rintro w s5 ⟨rfl,rfl⟩
  have hnZ:n≠Z:=fun e=>by rw [<-e,hn] at hZ2;cases hZ2
  simp (disch:=first|assumption|omega|(simp only [List.length_append,List.length_cons,List.length_nil];omega)) only [go_sem,hf,hf2,hna,hn3,hZ,hnZ,hil',hst,Int.toNat_natCast,Nat.zero_add]
  rw [kv_put (by omega)]
  have hm2:=hm.put (i:=i) (v:=ids.length) hZ1 hZ3
  have hp2:=hp.set (x:=Z) (some (.obj (kv .i64 (cs.set i ids.length)++R))) (.inl (by rw [hZ1];simp)) (ck_ne h.ck hZ2)
  obtain ⟨σ3,r3,g1,g2,g3,g4⟩:=hm2.soft h.ck hp2
  have hsn:s≠na:=fun e=>by rw [e,hm.new] at hs;cases hs
  have hcu:u32L (cs.set i ids.length):=fun q hq=>by
   rcases List.mem_or_eq_of_mem_set hq with hq|rfl
   ·exact hl.cu q hq
   ·omega
  have hstore:=sqstore_ok (nd := .inner 0 ds (cs.set i ids.length)) g4 ((ASt.set_ne hsn).trans hs) hq ⟨r3,ASt.set_same _ _ _,g2⟩ ⟨by rw [List.length_set];exact hcl,hl.most,by omega,hl.du,hcu⟩
  refine (hstore.wk g1.wk).mono ?_
  rintro w σ4 ⟨rfl,b',hb',h4⟩
  have hnn:n≠na:=fun e=>by rw [e,hm.new] at hn;cases hn
  have hn4:=h4.at ((ASt.set_ne hnn).trans hn)
  simp (disch:=first|assumption|omega|(simp only [List.length_append,List.length_cons,List.length_nil];omega)) only [go_sem,hf,hf2,hn4]
  refine ⟨1,by omega,?_⟩
  rw [hJ]
  refine ⟨?_,.inr ⟨rfl,na,r3,b',?_,hm.new,g2,hb',h4⟩⟩
  ·simp (disch:=first|assumption|omega|(simp only [List.length_append,List.length_cons,List.length_nil];omega)) only [go_sem,hf]
  ·simp (disch:=first|assumption|omega|(simp only [List.length_append,List.length_cons,List.length_nil];omega)) only [go_sem]
 ·have l0:((1:Nat):Int)<20:=by decide
  obtain ⟨xs,hxs⟩:=SNodeR.up0 (hp3.at (ASt.set_same _ _ _)) hr3
  simp (disch:=first|assumption|omega|(simp only [List.length_append,List.length_cons,List.length_nil];omega)) only [go_sem,hf,hf2,l0,hxs]
  rw [hK]
  exact retC_by (.refl _) (.refl _) ⟨rfl,b',hb',hp3.drop1 hna h.ck⟩
end
end Go.A
namespace Go.A
open Go.Proofs
/-! 10: (*tabular/seq.Seq).Find -/
def c10_54:ACode := .seq (.ops [ oq 91 (.bin .lss (.t 90) (.t 89))]) (.seq (.cond (.t 91) .skip (.exit 2)) (.seq (.block 3 (.seq (.ops [ oq 92 (.ia 1 (.t 88) (.t 90)),oq 93 (.ld none (.t 92)),oq 16 (.mv (.t 93))]) (.ops [ oq 94 (.mv (.t 11)),oq 95 (.mv (.t 16)),oq 96 (.bin .add (.t 94) (.t 95)),oq 11 (.mv (.t 96))]))) (.ops [ oq 97 (.bin .add (.t 90) (.v (.int .i64 1))),oq 90 (.mv (.t 97))])))
def c10_69:ACode := .seq (.ops [ oq 56 (.bin .lss (.t 55) (.v (.int .i64 20)))]) (.seq (.cond (.t 56) .skip (.exit 0)) (.seq (.block 1 (.seq (.seq (.ops [ oq 57 (.mv (.t 10)),oq 58 (.nc (.t 57)),oq 59 (.fa 1 (.t 58)),oq 60 (.ld none (.t 59)),oq 61 (.bin .eql (.t 60) (.v (.int .i64 0)))]) (.cond (.t 61) (.seq (.ops [ oq 62 (.mv (.t 11)),oq 4 (.mv (.t 62)),oq 5 (.mv (.v (.int .i64 0)))]) .ret) .skip)) (.seq (.ops [ oq 64 (.mv (.t 0)),oq 65 (.mv (.t 10)),oq 66 (.nc (.t 65)),oq 67 (.fa 1 (.t 66)),oq 68 (.ld none (.t 67)),oe 69 (.call 35 [(.t 64),(.t 68)]),oq 63 (.mv (.t 69)),oq 70 (.ext 0 (.t 63)),oq 71 (.ext 1 (.t 63)),oq 12 (.mv (.t 70)),oq 13 (.mv (.t 71))]) (.seq (.seq (.ops [ oq 72 (.mv (.t 13)),oq 73 (.bin .neq (.t 72) (.v (.int .i64 0)))]) (.cond (.t 73) (.seq (.ops [ oq 74 (.mv (.t 13)),oq 4 (.mv (.v (.int .i64 0))),oq 5 (.mv (.t 74))]) .ret) .skip)) (.seq (.ops [ oq 75 (.mv (.t 12)),oq 76 (.nc (.t 75)),oq 77 (.fa 3 (.t 76)),oq 78 (.ld none (.t 77)),oq 79 (.mv (.t 9)),oe 80 (.call 37 [(.t 78),(.t 79)]),oq 14 (.mv (.t 80))]) (.seq (.seq (.ops [ oq 81 (.mv (.t 14)),oq 82 (.bin .lss (.t 81) (.v (.int .i64 0)))]) (.cond (.t 82) (.seq (.ops [ oq 4 (.mv (.v (.int .i64 0))),oq 5 (.mv (.v (.int .i64 3)))]) .ret) .skip)) (.seq (.seq (.ops [ oq 83 (.mv (.t 12)),oq 84 (.nc (.t 83)),oq 85 (.fa 4 (.t 84)),oq 86 (.ld none (.t 85)),oq 87 (.mv (.t 14)),oq 88 (.slto (false,1) (.t 86) (.t 87)),oq 89 (.len (.t 88)),oq 90 (.mv (.v (.int .i64 0)))]) (.block 2 (.loop c10_54))) (.ops [ oq 98 (.mv (.t 10)),oq 99 (.nc (.t 98)),oq 100 (.fa 1 (.t 99)),oq 101 (.ld none (.t 100)),oq 102 (.mv (.t 12)),oq 9 (.mv (.t 101)),oq 10 (.mv (.t 102))])))))))) (.ops [ oq 103 (.bin .add (.t 55) (.v (.int .i64 1))),oq 55 (.mv (.t 103))])))
def c10_84:ACode := .seq (.ops [ oq 4 (.mv (.v (.int .i64 0))),oq 5 (.mv (.v (.int .i64 0)))]) (.seq (.ops [ oq 18 (.mv (.t 0)),oq 19 (.nc (.t 18)),oq 20 (.fa 2 (.t 19)),oq 21 (.ld none (.t 20)),oq 22 (.mv (.t 1)),oe 23 (.call 28 [(.t 21),(.t 22)]),oq 17 (.mv (.t 23)),oq 24 (.ext 0 (.t 17)),oq 25 (.ext 1 (.t 17)),oq 26 (.ext 2 (.t 17)),oq 6 (.mv (.t 24)),oq 7 (.mv (.t 25)),oq 8 (.mv (.t 26))]) (.seq (.seq (.ops [ oq 27 (.mv (.t 8)),oq 28 (.bin .eql (.t 27) (.v (.int .i64 0))),oq 29 (.mv (.t 28)),⟨some 30,some (29,true),.q (.mv (.t 7)),[]⟩,⟨some 31,some (29,true),.q (.un .not (.t 30)),[]⟩,oq 32 (.pick (.t 29) (.t 31) (.v (.bool false)))]) (.cond (.t 32) (.ops [ oq 8 (.mv (.v (.int .i64 4)))]) .skip)) (.seq (.seq (.ops [ oq 33 (.mv (.t 8)),oq 34 (.bin .neq (.t 33) (.v (.int .i64 0)))]) (.cond (.t 34) (.seq (.ops [ oq 35 (.mv (.t 8)),oq 4 (.mv (.v (.int .i64 0))),oq 5 (.mv (.t 35))]) .ret) .skip)) (.seq (.ops [ oq 36 (.mv (.t 6)),oq 37 (.conv .i64 (.t 36)),oq 9 (.mv (.t 37))]) (.seq (.ops [ oq 39 (.mv (.t 0)),oq 40 (.mv (.t 9)),oe 41 (.call 35 [(.t 39),(.t 40)]),oq 38 (.mv (.t 41)),oq 42 (.ext 0 (.t 38)),oq 43 (.ext 1 (.t 38)),oq 10 (.mv (.t 42)),oq 8 (.mv (.t 43))]) (.seq (.seq (.ops [ oq 44 (.mv (.t 8)),oq 45 (.bin .neq (.t 44) (.v (.int .i64 0)))]) (.cond (.t 45) (.seq (.ops [ oq 46 (.mv (.t 8)),oq 4 (.mv (.v (.int .i64 0))),oq 5 (.mv (.t 46))]) .ret) .skip)) (.seq (.ops [ oq 47 (.mv (.t 10)),oq 48 (.nc (.t 47)),oq 49 (.fa 2 (.t 48)),oq 50 (.ld none (.t 49)),oq 51 (.mv (.t 1)),oe 52 (.call 36 [(.t 50),(.t 51)]),oq 11 (.mv (.t 52))]) (.seq (.seq (.ops [ oq 53 (.mv (.t 11)),oq 54 (.bin .lss (.t 53) (.v (.int .i64 0)))]) (.cond (.t 54) (.seq (.ops [ oq 4 (.mv (.v (.int .i64 0))),oq 5 (.mv (.v (.int .i64 3)))]) .ret) .skip)) (.seq (.seq (.ops [ oq 55 (.mv (.v (.int .i64 0)))]) (.block 0 (.loop c10_69))) (.seq (.ops [ oq 4 (.mv (.v (.int .i64 0))),oq 5 (.mv (.v (.int .i64 3)))]) .ret))))))))))
@[go_sem] def c10_54_wp:=wp_of c10_54.eq_1
@[go_sem] def c10_69_wp:=wp_of c10_69.eq_1
@[go_sem] def c10_84_wp:=wp_of c10_84.eq_1
def c10:AFn:=⟨104,[.t 4,.t 5],c10_84⟩
theorem c10_ok:compF Tryz.prog Tryz.f10=some c10:=by kernel_rfl
theorem a10 {args:List AV} {σ:ASt} {R:AV->ASt->Prop} (hl:args.length<=104) (h:c10_84.wp Tryz.prog (RetQ [.t 4,.t 5] R) (init args) σ):ACalls Tryz.prog 10 args σ R:=acalls_of Tryz.func10 c10_ok hl h
/-! 11: (*tabular/seq.Seq).Get -/
def c11_23:ACode := .seq (.ops [ oq 4 (.mv (.v (.int .u64 0))),oq 5 (.mv (.v (.int .i64 0)))]) (.seq (.seq (.ops [ oq 10 (.mv (.t 1)),oq 11 (.bin .lss (.t 10) (.v (.int .i64 0)))]) (.cond (.t 11) (.seq (.ops [ oq 4 (.mv (.v (.int .u64 0))),oq 5 (.mv (.v (.int .i64 1)))]) .ret) .skip)) (.seq (.ops [ oq 13 (.mv (.t 0)),oq 14 (.mv (.t 1)),oe 15 (.call 29 [(.t 13),(.t 14)]),oq 12 (.mv (.t 15)),oq 16 (.ext 0 (.t 12)),oq 17 (.ext 1 (.t 12)),oq 18 (.ext 2 (.t 12)),oq 19 (.ext 3 (.t 12)),oq 6 (.mv (.t 16)),oq 7 (.mv (.t 17)),oq 8 (.mv (.t 18)),oq 9 (.mv (.t 19))]) (.seq (.seq (.ops [ oq 20 (.mv (.t 9)),oq 21 (.bin .neq (.t 20) (.v (.int .i64 0)))]) (.cond (.t 21) (.seq (.ops [ oq 22 (.mv (.t 9)),oq 4 (.mv (.v (.int .u64 0))),oq 5 (.mv (.t 22))]) .ret) .skip)) (.seq (.seq (.ops [ oq 23 (.mv (.t 8)),oq 24 (.mv (.t 6)),oq 25 (.nc (.t 24)),oq 26 (.fa 2 (.t 25)),oq 27 (.ld none (.t 26)),oq 28 (.len (.t 27)),oq 29 (.bin .geq (.t 23) (.t 28))]) (.cond (.t 29) (.seq (.ops [ oq 4 (.mv (.v (.int .u64 0))),oq 5 (.mv (.v (.int .i64 1)))]) .ret) .skip)) (.seq (.ops [ oq 30 (.mv (.t 6)),oq 31 (.nc (.t 30)),oq 32 (.fa 2 (.t 31)),oq 33 (.ld none (.t 32)),oq 34 (.mv (.t 8)),oq 35 (.ia 1 (.t 33) (.t 34)),oq 36 (.ld none (.t 35)),oq 4 (.mv (.t 36)),oq 5 (.mv (.v (.int .i64 0)))]) .ret)))))
@[go_sem] def c11_23_wp:=wp_of c11_23.eq_1
def c11:AFn:=⟨37,[.t 4,.t 5],c11_23⟩
theorem c11_ok:compF Tryz.prog Tryz.f11=some c11:=by kernel_rfl
theorem a11 {args:List AV} {σ:ASt} {R:AV->ASt->Prop} (hl:args.length<=37) (h:c11_23.wp Tryz.prog (RetQ [.t 4,.t 5] R) (init args) σ):ACalls Tryz.prog 11 args σ R:=acalls_of Tryz.func11 c11_ok hl h
end Go.A
namespace Go.A
open Go.Proofs
section
variable {base base' σ σ':ASt} {p k page t root troot n s up:Nat} {m:Int} {pg:Pgs} {ids ds cs:List Nat} {r:Role} {T:Nat->Prop} {M:Nat->Option Nat}
theorem sqget_of (h:PoolAt base σ p m k pg) {i q i' x:Nat}
  (hdown:ACalls Tryz.prog 29 [.ptr s 0,.int .i64 i] σ fun w σ'=>∃ n x base1,w = .tuple [.ptr n 0,.int .i64 q,.int .i64 i',.int .i64 0]/\LeafS base base1 n x up ids/\Only base base1 (nodeB n x (.sl .full []))/\PoolAt base1 σ' p m k pg) (hx:ids[i']? = some x) :
  ACalls Tryz.prog 11 [.ptr s 0,.int .i64 i] σ fun w σ'=>w = .tuple [.int .u64 x,.int .i64 0]/\PoolAt base σ' p m k pg:=by
 have hi0:¬ (i:Int)<0:=by omega
 have hil:=(List.getElem?_eq_some_iff.1 hx).1
 have hil':(i':Int)<(ids.length:Int):=by omega
 have hge:¬ (ids.length:Int)<=(i':Int):=by omega
 refine a11 (by simp) ?_
 simp (disch:=first|assumption|omega|(simp only [List.length_append,List.length_cons,List.length_nil];omega)) only [go_sem,hi0]
 refine hdown.mono ?_
 rintro w σ1 ⟨n,v,base1,rfl,hm,hO,hp⟩
 have hn:=hp.at hm.hn
 obtain ⟨Y,cc,R,rfl,hY,hg⟩:=(hm.hx.mono (σ':=σ1) fun X r _ hX=>hp.at hX).get hx
 simp (disch:=first|assumption|omega|(simp only [List.length_append,List.length_cons,List.length_nil];omega)) only [go_sem,hn,hY,hg,hge,hil',Int.toNat_natCast,Nat.zero_add]
 exact retC_by (.refl _) (.refl _) ⟨rfl,hp.less hm.kept h.ck⟩
set_option maxHeartbeats 2000000 in
theorem sqfind_ok (h:PoolAt base σ p m k pg) (hs:base s=some (.obj [.ptr p 0,.int .i64 root,.ptr t 0])) (ht:base t=some (.obj [.ptr p 0,.int .i64 troot])) (hT:TrAt pg troot T M) {id i0:Nat} (hid:M id=some page) {bl br:List UInt8} (hqp:pg page=some bl) (hll:SLeaf bl up ids) (hi0:ids[i0]? = some id) (hno:∀ j,j<i0->ids[j]? ≠ some id)
  (hup:1<=up) (hq:pg up=some br) (hl:SInner br 0 ds cs) {i:Nat} (hi:ds[i]? = some page) (hno2:∀ j,j<i->ds[j]? ≠ some page) (hsum:cs.sum<=1000) :
  ACalls Tryz.prog 10 [.ptr s 0,.int .u64 id] σ fun w σ'=>w = .tuple [.int .i64 ((i0+(cs.take i).sum:Nat)),.int .i64 0]/\PoolAt base σ' p m k pg:=by
 have hss:=h.at hs
 have hget:=trget_at h ht hT id
 rw [hid] at hget
 have hg1:(some page:Option Nat).getD 0=page:=rfl
 have hg2:(some page:Option Nat).isSome=true:=rfl
 rw [hg1,hg2] at hget
 have hpr:=(h.rng hqp).2
 have hum:ids.length<=48:=hll.most
 have hi0l:=(List.getElem?_eq_some_iff.1 hi0).1
 have hil:=(List.getElem?_eq_some_iff.1 hi).1
 have hdm:=hl.most
 have hcn:=hl.n
 have wp:IntKind.wrap .i64 (page:Int)=(page:Int):=by rw [IntKind.wrap_i64];omega
 refine a10 (by simp) ?_
 simp (disch:=first|assumption|omega|(simp only [List.length_append,List.length_cons,List.length_nil];omega)) only [go_sem,hss]
 refine hget.mono ?_
 rintro w σ1 ⟨rfl,h1⟩
 simp (disch:=first|assumption|omega|(simp only [List.length_append,List.length_cons,List.length_nil];omega)) only [go_sem,wp]
 refine (sqload_i (nd := .leaf up ids) h1 hs hqp hll).mono ?_
 rintro w σ2 ⟨lc,rfl,⟨k1,hlc⟩,h2⟩
 injection hlc with hlc
 have hidx:=xIdx64_ok k1 (l:=ids) (by omega) hi0 hno
 rw [hlc]
 simp (disch:=first|assumption|omega|(simp only [List.length_append,List.length_cons,List.length_nil];omega)) only [go_sem]
 refine hidx.use ?_
 have hi0':¬ (i0:Int)<0:=by omega
 simp (disch:=first|assumption|omega|(simp only [List.length_append,List.length_cons,List.length_nil];omega)) only [go_sem,hi0']
 rw [<-hlc]
 obtain ⟨J,hJ⟩:∃ J:Nat->AFr->ASt->Prop,J=fun j a1 s2=>(a1 0 = .ptr s 0/\a1 55 = .int .i64 j)/\(j=0/\(a1 9 = .int .i64 page/\a1 10 = .imm lc/\a1 11 = .int .i64 i0)\/j=1/\∃ xs,a1 10 = .imm (.bool false :: .int .i64 0::xs)/\a1 11 = .int .i64 ((i0+(cs.take i).sum:Nat)))/\PoolAt base s2 p m k pg:=⟨_,rfl⟩
 refine wp_loop_on J (fun i=>2-i) 0 ?_ ?_
 ·rw [hJ]
  refine ⟨?_,.inl ⟨rfl,?_⟩,h2⟩
  ·simp (disch:=first|assumption|omega|(simp only [List.length_append,List.length_cons,List.length_nil];omega)) only [go_sem]
  ·simp (disch:=first|assumption|omega|(simp only [List.length_append,List.length_cons,List.length_nil];omega)) only [go_sem]
 intro j a1 s2 hj
 rw [hJ] at hj
 obtain ⟨hf,hc,hp⟩:=hj
 rcases hc with ⟨rfl,hf2⟩|⟨rfl,xs,hf2⟩
 ·have l0:((0:Nat):Int)<20:=by decide
  have hup0:¬ (up:Int)=0:=by omega
  have hf3:=hf2
  rw [hlc] at hf3
  simp (disch:=first|assumption|omega|(simp only [List.length_append,List.length_cons,List.length_nil];omega)) only [go_sem,hf,hf3,l0,hup0]
  refine (sqload_i (nd := .inner 0 ds cs) hp hs hq hl).mono ?_
  rintro w s3 ⟨ic,rfl,⟨m1,m2,m3,hic⟩,hp3⟩
  injection hic with hic
  have hidx2:=xIdxI_ok m2 (l:=ds) (by omega) hi hno2
  have hcl:=kv_len .i64 cs
  have hsl:slV (false,1) (.sl m3 (kv .i64 cs)) 0 (i:Int)=some (.sl .shr (kv .i64 (cs.take i))):=slV_to (f:=fun (n:Nat)=>AV.int .i64 (n:Int)) (by omega)
  have hkl:=kv_len .i64 (cs.take i)
  have hkg:=fun (a b:Nat) (h:(cs.take i)[a]? = some b)=>kv_get (k := .i64) h
  have htl:(cs.take i).length=i:=by rw [List.length_take];omega
  rw [htl] at hkl
  rw [hic]
  simp (disch:=first|assumption|omega|(simp only [List.length_append,List.length_cons,List.length_nil];omega)) only [go_sem,hf,hf3]
  refine hidx2.use ?_
  have hi':¬ (i:Int)<0:=by omega
  generalize kv .i64 (cs.take i)=KT at *
  simp (disch:=first|assumption|omega|(simp only [List.length_append,List.length_cons,List.length_nil];omega)) only [go_sem,hf,hf3,hi',hsl,hkl]
  have hbnd:=sum_take_le cs i
  have hss2:∀ q,((cs.take i).take q).sum<=(cs.take i).sum:=fun q=>sum_take_le _ q
  generalize cs.take i=C at *
  obtain ⟨J2,hJ2⟩:∃ J:Nat->AFr->ASt->Prop,J=fun q a2 s4=>q<=i/\(a2 0 = .ptr s 0/\a2 10 = .imm lc/\a2 12 = .imm ic/\a2 55 = .int .i64 0/\a2 88 = .sl .shr KT/\a2 89 = .int .i64 i/\a2 90 = .int .i64 q/\a2 11 = .int .i64 ((i0+(C.take q).sum:Nat)))/\s4=s3:=⟨_,rfl⟩
  refine wp_loop_on J2 (fun q=>i-q) 0 ?_ ?_
  ·rw [hJ2]
   refine ⟨Nat.zero_le _,?_,rfl⟩
   have e0:i0+(C.take 0).sum=i0:=rfl
   rw [e0,hic]
   simp (disch:=first|assumption|omega|(simp only [List.length_append,List.length_cons,List.length_nil];omega)) only [go_sem,hf,hf2]
  intro q a2 s4 hj2
  rw [hJ2] at hj2
  obtain ⟨hqi,hg,rfl⟩:=hj2
  by_cases hlt:q<i
  ·have hlt':(q:Int)<(i:Int):=by omega
   obtain ⟨x,hx⟩:∃ x,C[q]? = some x:=⟨_,List.getElem?_eq_getElem (by omega)⟩
   have hgx:=hkg q x hx
   have hs1:(C.take (q+1)).sum=(C.take q).sum+x:=by rw [<-take_snoc hx,List.sum_append,List.sum_singleton]
   have hb1:=hss2 (q+1)
   have w1:IntKind.wrap .i64 (((i0+(C.take q).sum:Nat):Int)+(x:Int))=((i0+(C.take (q+1)).sum:Nat):Int):=by rw [IntKind.wrap_i64];omega
   generalize hW:i0+(C.take q).sum=W at *
   generalize hZ:i0+(C.take (q+1)).sum=Z at *
   simp (disch:=first|assumption|omega|(simp only [List.length_append,List.length_cons,List.length_nil];omega)) only [go_sem,hg,hlt',hgx,w1,Int.toNat_natCast]
   refine ⟨q+1,by omega,?_⟩
   rw [hJ2]
   refine ⟨by omega,?_,rfl⟩
   rw [hZ]
   simp (disch:=first|assumption|omega|(simp only [List.length_append,List.length_cons,List.length_nil];omega)) only [go_sem,hg,w1]
  ·have hlt':¬ (q:Int)<(i:Int):=by omega
   obtain rfl:q=i:=by omega
   have hCi:C.take q=C:=List.take_of_length_le (by omega)
   rw [hCi] at hg
   have hg2:=hg
   rw [hlc,hic] at hg2
   simp (disch:=first|assumption|omega|(simp only [List.length_append,List.length_cons,List.length_nil];omega)) only [go_sem,hg2,hlt']
   refine ⟨1,by omega,?_⟩
   rw [hJ]
   refine ⟨?_,.inr ⟨rfl,[.sl m1 [],.sl m2 (kv .i64 ds),.sl m3 (kv .i64 cs)],?_,?_⟩,hp3⟩
   ·simp (disch:=first|assumption|omega|(simp only [List.length_append,List.length_cons,List.length_nil];omega)) only [go_sem,hg2]
   ·simp (disch:=first|assumption|omega|(simp only [List.length_append,List.length_cons,List.length_nil];omega)) only [go_sem,hg2]
   ·simp (disch:=first|assumption|omega|(simp only [List.length_append,List.length_cons,List.length_nil];omega)) only [go_sem,hg2]
 ·have l0:((1:Nat):Int)<20:=by decide
  simp (disch:=first|assumption|omega|(simp only [List.length_append,List.length_cons,List.length_nil];omega)) only [go_sem,hf,hf2,l0]
  exact retC_by (.refl _) (.refl _) ⟨rfl,hp⟩
end
end Go.A
namespace Go.A
open Go.Proofs
/-! 68: (*tabular/seq.Seq).raise -/
def c68_23:ACode := .seq (.ops [ oq 4 (.mv (.v (.int .i64 0)))]) (.seq (.ops [ oq 9 (.mv (.t 1)),oq 10 (.mv (.t 0)),oq 11 (.nc (.t 10)),oq 12 (.fa 1 (.t 11)),oq 13 (.ld none (.t 12)),oq 14 (.nc (.t 9)),oq 15 (.fa 1 (.t 14)),oz (.store 1 (.t 15) (.t 13))]) (.seq (.ops [ oq 16 (.mv (.t 1)),oe 17 (.call 69 [(.t 16)]),oq 5 (.mv (.t 17))]) (.seq (.ops [ oq 19 (.mv (.t 0)),oq 20 (.mv (.t 1)),oe 21 (.call 70 [(.t 19),(.t 20)]),oq 18 (.mv (.t 21)),oq 22 (.ext 0 (.t 18)),oq 23 (.ext 1 (.t 18)),oq 6 (.mv (.t 22)),oq 7 (.mv (.t 23))]) (.seq (.seq (.ops [ oq 24 (.mv (.t 7)),oq 25 (.bin .neq (.t 24) (.v (.int .i64 0)))]) (.cond (.t 25) (.seq (.ops [ oq 26 (.mv (.t 7)),oq 4 (.mv (.t 26))]) .ret) .skip)) (.seq (.ops [ oq 28 (.mv (.t 0)),oq 29 (.mv (.t 5)),oe 30 (.call 70 [(.t 28),(.t 29)]),oq 27 (.mv (.t 30)),oq 31 (.ext 0 (.t 27)),oq 32 (.ext 1 (.t 27)),oq 8 (.mv (.t 31)),oq 7 (.mv (.t 32))]) (.seq (.seq (.ops [ oq 33 (.mv (.t 7)),oq 34 (.bin .neq (.t 33) (.v (.int .i64 0)))]) (.cond (.t 34) (.seq (.ops [ oq 35 (.mv (.t 7)),oq 4 (.mv (.t 35))]) .ret) .skip)) (.seq (.ops [ oq 36 (.mv (.t 0)),oq 37 (.mv (.t 0)),oq 38 (.nc (.t 37)),oq 39 (.fa 1 (.t 38)),oq 40 (.ld none (.t 39)),oq 41 (.mv (.t 6)),oq 42 (.mv (.t 8)),oq 43 (.bsl 1 [(.t 41),(.t 42)]),oq 44 (.mv (.t 1)),oq 46 (.mv (.t 5)),⟨some 45,none,.e (.call 71 [(.t 44)]),[⟨none,.ld none (.t 39),40⟩]⟩,⟨some 47,none,.e (.call 71 [(.t 46)]),[⟨none,.ld none (.t 39),40⟩]⟩,oq 48 (.bsl 1 [(.t 45),(.t 47)]),oq 49 (.build [(.bool false),(.int .i64 0),(.sl .full []),(.sl .full []),(.sl .full [])] [(3,1,(.t 43)),(4,1,(.t 48))]),⟨some 50,none,.e (.box (.t 49)),[⟨none,.ld none (.t 39),40⟩]⟩,oe 51 (.call 66 [(.t 36),(.t 40),(.t 50)]),oq 4 (.mv (.t 51))]) .ret)))))))
@[go_sem] def c68_23_wp:=wp_of c68_23.eq_1
def c68:AFn:=⟨52,[.t 4],c68_23⟩
theorem c68_ok:compF Tryz.prog Tryz.f68=some c68:=by kernel_rfl
theorem a68 {args:List AV} {σ:ASt} {R:AV->ASt->Prop} (hl:args.length<=52) (h:c68_23.wp Tryz.prog (RetQ [.t 4] R) (init args) σ):ACalls Tryz.prog 68 args σ R:=acalls_of Tryz.func68 c68_ok hl h
/-! 69: (*tabular/seq.node).cut -/
def c69_15:ACode := .seq (.ops [ oq 2 (.mv (.v .nilp))]) (.seq (.ops [ oq 5 (.mv (.t 0)),oe 6 (.call 54 [(.t 5)]),oq 7 (.bin .quo (.t 6) (.v (.int .i64 2))),oq 3 (.mv (.t 7))]) (.seq (.ops [ oq 8 (.mv (.t 0)),oq 9 (.nc (.t 8)),oq 10 (.fa 0 (.t 9)),oq 11 (.ld none (.t 10)),oq 12 (.mv (.t 0)),oq 13 (.nc (.t 12)),oq 14 (.fa 1 (.t 13)),oq 15 (.ld none (.t 14)),oq 16 (.build [(.bool false),(.int .i64 0),(.sl .full []),(.sl .full []),(.sl .full [])] [(0,1,(.t 11)),(1,1,(.t 15))]),oe 17 (.box (.t 16)),oq 4 (.mv (.t 17))]) (.seq (.seq (.ops [ oq 18 (.mv (.t 0)),oq 19 (.nc (.t 18)),oq 20 (.fa 0 (.t 19)),oq 21 (.ld none (.t 20))]) (.cond (.t 21) (.ops [ oq 22 (.mv (.t 4)),oq 23 (.mv (.t 0)),oq 24 (.mv (.t 0)),oq 25 (.nc (.t 24)),oq 26 (.fa 2 (.t 25)),oq 27 (.ld none (.t 26)),oq 28 (.mv (.t 3)),oq 29 (.slfrom (false,1) (.t 27) (.t 28)),oq 31 (.mv (.t 0)),oq 32 (.nc (.t 31)),oq 33 (.fa 2 (.t 32)),oq 34 (.ld none (.t 33)),oq 35 (.mv (.t 3)),oq 36 (.slto (false,1) (.t 34) (.t 35)),⟨some 30,none,.e (.call 92 [(.t 29)]),[⟨none,.ld none (.t 33),34⟩]⟩,oq 37 (.nc (.t 22)),oq 38 (.fa 2 (.t 37)),oz (.store 1 (.t 38) (.t 30)),oq 39 (.nc (.t 23)),oq 40 (.fa 2 (.t 39)),oz (.store 1 (.t 40) (.t 36))]) (.seq (.ops [ oq 41 (.mv (.t 4)),oq 42 (.mv (.t 0)),oq 43 (.mv (.t 0)),oq 44 (.nc (.t 43)),oq 45 (.fa 3 (.t 44)),oq 46 (.ld none (.t 45)),oq 47 (.mv (.t 3)),oq 48 (.slfrom (false,1) (.t 46) (.t 47)),oq 50 (.mv (.t 0)),oq 51 (.nc (.t 50)),oq 52 (.fa 3 (.t 51)),oq 53 (.ld none (.t 52)),oq 54 (.mv (.t 3)),oq 55 (.slto (false,1) (.t 53) (.t 54)),⟨some 49,none,.e (.call 93 [(.t 48)]),[⟨none,.ld none (.t 52),53⟩]⟩,oq 56 (.nc (.t 41)),oq 57 (.fa 3 (.t 56)),oz (.store 1 (.t 57) (.t 49)),oq 58 (.nc (.t 42)),oq 59 (.fa 3 (.t 58)),oz (.store 1 (.t 59) (.t 55))]) (.ops [ oq 60 (.mv (.t 4)),oq 61 (.mv (.t 0)),oq 62 (.mv (.t 0)),oq 63 (.nc (.t 62)),oq 64 (.fa 4 (.t 63)),oq 65 (.ld none (.t 64)),oq 66 (.mv (.t 3)),oq 67 (.slfrom (false,1) (.t 65) (.t 66)),oq 69 (.mv (.t 0)),oq 70 (.nc (.t 69)),oq 71 (.fa 4 (.t 70)),oq 72 (.ld none (.t 71)),oq 73 (.mv (.t 3)),oq 74 (.slto (false,1) (.t 72) (.t 73)),⟨some 68,none,.e (.call 93 [(.t 67)]),[⟨none,.ld none (.t 71),72⟩]⟩,oq 75 (.nc (.t 60)),oq 76 (.fa 4 (.t 75)),oz (.store 1 (.t 76) (.t 68)),oq 77 (.nc (.t 61)),oq 78 (.fa 4 (.t 77)),oz (.store 1 (.t 78) (.t 74))])))) (.seq (.ops [ oq 79 (.mv (.t 4)),oq 2 (.mv (.t 79))]) .ret))))
@[go_sem] def c69_15_wp:=wp_of c69_15.eq_1
def c69:AFn:=⟨80,[.t 2],c69_15⟩
theorem c69_ok:compF Tryz.prog Tryz.f69=some c69:=by kernel_rfl
theorem a69 {args:List AV} {σ:ASt} {R:AV->ASt->Prop} (hl:args.length<=80) (h:c69_15.wp Tryz.prog (RetQ [.t 2] R) (init args) σ):ACalls Tryz.prog 69 args σ R:=acalls_of Tryz.func69 c69_ok hl h
end Go.A
namespace Go.A
open Go.Proofs
theorem adL_60 {M:Nat->Option Nat} {l:List Nat} {q:Nat} (h60:∀ k v,M k=some v->k<60) (hl:∀ x∈l,x<60):∀ k v,adL M l q k=some v->k<60:=fun k v h=>by
 unfold adL at h
 split at h
 ·rename_i e;exact hl k e
 ·exact h60 k v h
section
variable {base base' σ σ':ASt} {p k page t root troot n s up:Nat} {m:Int} {pg:Pgs} {ids ds cs:List Nat} {r:Role} {T:Nat->Prop} {M:Nat->Option Nat}
set_option maxHeartbeats 1000000 in
theorem sqcut_leaf (hn:σ n=some r) (hr:SNodeR r (.leaf up ids)) (h2:2<=ids.length) (hl:ids.length<=1000) {h:Nat} (hh:h=ids.length / 2) :
  ACalls Tryz.prog 69 [.ptr n 0] σ fun v σ'=>∃ (m:Nat) (r1 r2:Role),v = .ptr m 0/\σ m=none/\SNodeR r1 (.leaf up (ids.take h))/\SNodeR r2 (.leaf up (ids.drop h))/\σ'=(σ.set m (some r2)).set n (some r1):=by
 have hsz:=sqsize_ok hn hr (by show ids.length<=1000;omega)
 have hszz:(SN.leaf up ids).size=ids.length:=rfl
 rw [hszz] at hsz
 obtain ⟨k1,rfl⟩:=hr
 have hkl:=kv_len .u64 ids
 have a1:slV (false,1) (.sl k1 (kv .u64 ids)) (h:Int) (ids.length:Int)=some (.sl .shr (kv .u64 (ids.drop h))):=slV_from (f:=fun (n:Nat)=>AV.int .u64 (n:Int)) (fun _=>rfl) (by omega)
 have a3:slV (false,1) (.sl k1 (kv .u64 ids)) 0 (h:Int)=some (.sl .shr (kv .u64 (ids.take h))):=slV_to (f:=fun (n:Nat)=>AV.int .u64 (n:Int)) (by omega)
 have d1:ids.drop h ≠ []:=fun e=>by have:=congrArg List.length e;rw [List.length_drop,List.length_nil] at this;omega
 have c1:=fun τ=>xClo64_ok .shr (σ:=τ) d1 (by rw [List.length_drop];omega)
 have e1:IntKind.wrap .i64 ((ids.length:Int).tdiv 2)=(h:Int):=by
  rw [Int.tdiv_eq_ediv_of_nonneg (by omega),show (ids.length:Int) / 2=(h:Int) by omega]
  rw [IntKind.wrap_i64]
  omega
 have hfin:SNodeR (.obj [.bool true,.int .i64 up,.sl .shr (kv .u64 (ids.take h)),.sl .full [],.sl .full []]) (.leaf up (ids.take h)):=⟨_,rfl⟩
 have hfin2:SNodeR (.obj [.bool true,.int .i64 up,.sl .shr (kv .u64 (ids.drop h)),.sl .full [],.sl .full []]) (.leaf up (ids.drop h)):=⟨_,rfl⟩
 have eKT:=kv_take .u64 ids h
 generalize kv .u64 (ids.drop h)=KD at *
 generalize kv .u64 (ids.take h)=KT at *
 generalize kv .u64 ids=KS at *
 refine a69 (by simp) ?_
 simp (disch:=first|assumption|omega|(simp only [List.length_append,List.length_cons,List.length_nil];omega)) only [go_sem]
 refine hsz.mono ?_
 rintro v σ1 ⟨rfl,rfl⟩
 simp (disch:=first|assumption|omega|(simp only [List.length_append,List.length_cons,List.length_nil];omega)) only [go_sem,hn,e1]
 refine boxC_by rfl fun m hm=>?_
 have hmn:m≠n:=fun e=>by rw [e,hn] at hm;cases hm
 have hn1:=(ASt.set_ne (σ:=σ1) (r:=some (.obj [.bool true,.int .i64 up,.sl .full [],.sl .full [],.sl .full []])) (Ne.symm hmn)).trans hn
 have c2:=c1 (σ1.set m (some (.obj [.bool true,.int .i64 up,.sl .full [],.sl .full [],.sl .full []])))
 simp (disch:=first|assumption|omega|(simp only [List.length_append,List.length_cons,List.length_nil];omega)) only [go_sem,hn1,hkl,a1]
 refine c2.mono ?_
 rintro v σ2 ⟨rfl,rfl⟩
 have hnm:=Ne.symm hmn
 simp (disch:=first|assumption|omega|(simp only [List.length_append,List.length_cons,List.length_nil];omega)) only [go_sem,hn1,a3,eKT,hn,hmn,hnm]
 exact retC_by (.refl _) (.refl _) ⟨m,_,_,rfl,hm,hfin,hfin2,rfl⟩
set_option maxHeartbeats 2000000 in
theorem sqraise_ok (hp:PoolAt (base.set n (some r)) σ p m k pg) (hck:CkT base) (hnew:base n=none) (hs:base s=some (.obj [.ptr p 0,.int .i64 root,.ptr t 0])) (ht:base t=some (.obj [.ptr p 0,.int .i64 troot])) (hr:SNodeR r (.leaf up ids)) (hT:TrAt pg troot T M) (h60:∀ k v,M k=some v->k<60) (hi60:∀ x∈ids,x<60)
  (h2:2<=ids.length) (hl:ids.length<=90) {h:Nat} (hh:h=ids.length / 2) {b0:List UInt8} (hq:pg root=some b0) (hTr:¬ T root) (hiu:u64L ids) (hroom:(k:Int)+2+2*ids.length<=m) :
  ACalls Tryz.prog 68 [.ptr s 0,.ptr n 0] σ fun w σ'=>w = .int .i64 0/\∃ (q1 q2:Nat) (b1 b2 b3:List UInt8) (k':Nat) (pg':Pgs) (T':Nat->Prop),k'<=k+2+2*ids.length/\(q1≠q2/\q1≠root/\q2≠root/\¬ T' root/\¬ T' q1/\¬ T' q2) ∧
   (pg' q1=some b1/\SLeaf b1 root (ids.take h))/\(pg' q2=some b2/\SLeaf b2 root (ids.drop h))/\(pg' root=some b3/\SInner b3 0 [q1,q2] [(ids.take h).length,(ids.drop h).length])/\TrAt pg' troot T' (adL (adL M (ids.take h) q1) (ids.drop h) q2)/\PoolAt base σ' p m k' pg':=by
 obtain ⟨K,hK⟩:∃ K:AV->ASt->Prop,K=fun w σ'=>w = .int .i64 0/\∃ (q1 q2:Nat) (b1 b2 b3:List UInt8) (k':Nat) (pg':Pgs) (T':Nat->Prop),k'<=k+2+2*ids.length/\(q1≠q2/\q1≠root/\q2≠root/\¬ T' root/\¬ T' q1/\¬ T' q2) ∧
   (pg' q1=some b1/\SLeaf b1 root (ids.take h))/\(pg' q2=some b2/\SLeaf b2 root (ids.drop h))/\(pg' root=some b3/\SInner b3 0 [q1,q2] [(ids.take h).length,(ids.drop h).length])/\TrAt pg' troot T' (adL (adL M (ids.take h) q1) (ids.drop h) q2)/\PoolAt base σ' p m k' pg':=⟨_,rfl⟩
 suffices hS:ACalls Tryz.prog 68 [.ptr s 0,.ptr n 0] σ K by rw [hK] at hS;exact hS
 have hrr:=(hp.rng hq).2
 have hsn:s≠n:=fun e=>by rw [e,hnew] at hs;cases hs
 have htn:t≠n:=fun e=>by rw [e,hnew] at ht;cases ht
 have hss:=hp.at ((ASt.set_ne hsn).trans hs)
 obtain ⟨k1,rfl⟩:=hr
 have hn:=hp.at (ASt.set_same base n _)
 have hp1:=hp.set (x:=n) (some (.obj [.bool true,.int .i64 root,.sl k1 (kv .u64 ids),.sl .full [],.sl .full []])) (.inl (by rw [ASt.set_same];simp)) (ck_ne hck hnew)
 rw [ASt.set_set] at hp1
 have hr1:SNodeR (.obj [.bool true,.int .i64 root,.sl k1 (kv .u64 ids),.sl .full [],.sl .full []]) (.leaf root ids):=⟨_,rfl⟩
 have hcut:=sqcut_leaf (hp1.at (ASt.set_same base n _)) hr1 h2 (by omega) hh
 generalize kv .u64 ids=KS at *
 refine a68 (by simp) ?_
 simp (disch:=first|assumption|omega|(simp only [List.length_append,List.length_cons,List.length_nil];omega)) only [go_sem,hn,hss]
 refine hcut.mono ?_
 rintro v σ1 ⟨n2,r1,r2,rfl,hn2,hra,hrb,rfl⟩
 have hb2:(base.set n (some (.obj [.bool true,.int .i64 root,.sl k1 KS,.sl .full [],.sl .full []]))) n2=none:=by
  cases hc:(base.set n (some (.obj [.bool true,.int .i64 root,.sl k1 KS,.sl .full [],.sl .full []]))) n2 with
  | none=>rfl
  | some q=>rw [hp1.at hc] at hn2;cases hn2
 have hnn2:n≠n2:=fun e=>by rw [<-e,ASt.set_same] at hb2;cases hb2
 have hbn2:base n2=none:=by rw [ASt.set_ne (Ne.symm hnn2)] at hb2;exact hb2
 have hp2:=(hp1.set (x:=n2) (some r2) (.inr hn2) (ck_ne hp1.ck hb2)).set (x:=n) (some r1) (.inl (by rw [ASt.set_ne hnn2,ASt.set_same];simp)) (ck_ne hck hnew)
 have e8:((base.set n (some (.obj [.bool true,.int .i64 root,.sl k1 KS,.sl .full [],.sl .full []]))).set n2 (some r2)).set n (some r1)=(base.set n2 (some r2)).set n (some r1):=by
  rw [set_swap hnn2,ASt.set_set]
 rw [e8] at hp2
 have hs2:((base.set n2 (some r2)).set n (some r1)) s=some (.obj [.ptr p 0,.int .i64 root,.ptr t 0]):=by
  rw [ASt.set_ne hsn,ASt.set_ne (fun e=>by rw [e,hbn2] at hs;cases hs)];exact hs
 have ht2:((base.set n2 (some r2)).set n (some r1)) t=some (.obj [.ptr p 0,.int .i64 troot]):=by
  rw [ASt.set_ne htn,ASt.set_ne (fun e=>by rw [e,hbn2] at ht;cases ht)];exact ht
 have hN1:((base.set n2 (some r2)).set n (some r1)) n=some r1:=ASt.set_same _ _ _
 have hN2:((base.set n2 (some r2)).set n (some r1)) n2=some r2:=by rw [ASt.set_ne (Ne.symm hnn2),ASt.set_same]
 have hA:(ids.take h).length=h:=by rw [List.length_take];omega
 have hB:(ids.drop h).length=ids.length-h:=List.length_drop
 have wA:∀ x∈ids.take h,x<60:=fun x hx=>hi60 x (List.mem_of_mem_take hx)
 have wB:∀ x∈ids.drop h,x<60:=fun x hx=>hi60 x (List.mem_of_mem_drop hx)
 have uA:u64L (ids.take h):=u64L_take hiu
 have uB:u64L (ids.drop h):=u64L_drop hiu
 generalize ids.take h=A at *
 generalize ids.drop h=B at *
 generalize hBB:(base.set n2 (some r2)).set n (some r1)=base2 at *
 simp (disch:=first|assumption|omega|(simp only [List.length_append,List.length_cons,List.length_nil];omega)) only [go_sem]
 refine (sqfresh_leaf hp2 hs2 ht2 hN1 hra ⟨by omega,by omega,uA⟩ hT h60 wA (by omega)).mono ?_
 rintro v σ2 ⟨q1,b1,ka,pga,Ta,rfl,⟨c1,c2,c3⟩,⟨c4,c5,c6⟩,c7,c8,c9,hp3⟩
 obtain ⟨f1,f2⟩:=c9 root hTr (by rw [hq];simp)
 have hq1r:q1≠root:=fun e=>by rw [e,hq] at c1;cases c1
 simp (disch:=first|assumption|omega|(simp only [List.length_append,List.length_cons,List.length_nil];omega)) only [go_sem]
 refine (sqfresh_leaf hp3 hs2 ht2 hN2 hrb ⟨by omega,by omega,uB⟩ c8 (adL_60 h60 wA) wB (by omega)).mono ?_
 rintro v σ3 ⟨q2,b2,kb,pgb,Tb,rfl,⟨d1,d2,d3⟩,⟨d4,d5,d6⟩,d7,d8,d9,hp4⟩
 obtain ⟨f3,f4⟩:=d9 root f1 (by rw [f2,hq];simp)
 obtain ⟨f5,f6⟩:=d9 q1 c6 (by rw [c4];simp)
 have hq2r:q2≠root:=fun e=>by rw [e,f2,hq] at d1;cases d1
 have hq12:q1≠q2:=fun e=>by rw [<-e,c4] at d1;cases d1
 have hss4:=hp4.at hs2
 have hc1:=sqcount_leaf (hp4.at hN1) hra
 have hc2:=sqcount_leaf (hp4.at hN2) hrb
 simp (disch:=first|assumption|omega|(simp only [List.length_append,List.length_cons,List.length_nil];omega)) only [go_sem,hss4]
 refine hc1.mono ?_
 rintro v σ4 ⟨rfl,rfl⟩
 simp (disch:=first|assumption|omega|(simp only [List.length_append,List.length_cons,List.length_nil];omega)) only [go_sem,hss4]
 refine hc2.mono ?_
 rintro v σ5 ⟨rfl,rfl⟩
 simp (disch:=first|assumption|omega|(simp only [List.length_append,List.length_cons,List.length_nil];omega)) only [go_sem,hss4]
 refine boxC_by rfl fun n3 hn3=>?_
 have hbn3:base2 n3=none:=by
  cases hc:base2 n3 with
  | none=>rfl
  | some q=>rw [hp4.at hc] at hn3;cases hn3
 have hp5:=hp4.set (x:=n3) (some (.obj [.bool false,.int .i64 0,.sl .full [],.sl .full [.int .i64 q1,.int .i64 q2],.sl .full [.int .i64 A.length,.int .i64 B.length]])) (.inr hn3) (ck_ne hp4.ck hbn3)
 have hs5:=(ASt.set_ne (σ:=base2) (r:=some (.obj [.bool false,.int .i64 0,.sl .full [],.sl .full [.int .i64 q1,.int .i64 q2],.sl .full [.int .i64 A.length,.int .i64 B.length]])) (fun e:s=n3=>by rw [e,hbn3] at hs2;cases hs2)).trans hs2
 have hsn3:s≠n3:=fun e=>by rw [e,hbn3] at hs2;cases hs2
 have hok:(SN.inner 0 [q1,q2] [A.length,B.length]).ok:=by
  refine ⟨rfl,by simp only [List.length_cons,List.length_nil];omega,by omega,fun x hx=>?_,fun x hx=>?_⟩
  ·simp only [List.mem_cons,List.not_mem_nil,or_false] at hx
   rcases hx with rfl|rfl<;>omega
  ·simp only [List.mem_cons,List.not_mem_nil,or_false] at hx
   rcases hx with rfl|rfl<;>omega
 simp (disch:=first|assumption|omega|(simp only [List.length_append,List.length_cons,List.length_nil];omega)) only [go_sem,hss4,hsn3]
 refine (sqstore_ok (nd := .inner 0 [q1,q2] [A.length,B.length]) hp5 hs5 (by rw [f4,f2];exact hq) ⟨_,ASt.set_same _ _ _,⟨.full,.full,.full,rfl⟩⟩ hok).mono ?_
 rintro v σ6 ⟨rfl,b3,hb3,hp6⟩
 simp (disch:=first|assumption|omega|(simp only [List.length_append,List.length_cons,List.length_nil];omega)) only [go_sem]
 rw [hK]
 have hp7:=hp6.drop1 hbn3 hp4.ck
 rw [<-hBB] at hp7
 have hp8:=(hp7.drop1 (by rw [ASt.set_ne hnn2];exact hnew) (hck.away (ck_ne hck hbn2))).drop1 hbn2 hck
 exact retC_by (.refl _) (.refl _) ⟨rfl,q1,q2,b1,b2,b3,kb,_,Tb,by omega,⟨hq12,hq1r,hq2r,f3,f5,d6⟩,⟨by rw [pset_ne hq1r,f6];exact c4,c5⟩,⟨by rw [pset_ne hq2r];exact d4,d5⟩,⟨pset_same _ _ _,hb3⟩,d8.frame fun x hx=>pset_ne fun e=>f3 (e▸hx),hp8⟩
end
end Go.A
namespace Go.A
open Go.Proofs
/-! 32: (*tabular/seq.Seq).grow -/
def c32_61:ACode := .seq (.seq (.ops [ oq 43 (.mv (.t 0)),oq 44 (.mv (.t 1)),oq 45 (.mv (.t 2)),oe 46 (.call 66 [(.t 43),(.t 44),(.t 45)]),oq 9 (.mv (.t 46))]) (.seq (.ops [ oq 47 (.mv (.t 9)),oq 48 (.bin .neq (.t 47) (.v (.int .i64 0)))]) (.cond (.t 48) (.seq (.ops [ oq 49 (.mv (.t 9)),oq 6 (.mv (.t 49))]) .ret) .skip))) (.seq (.ops [ oq 51 (.mv (.t 0)),oq 52 (.mv (.t 8)),oe 53 (.call 70 [(.t 51),(.t 52)]),oq 50 (.mv (.t 53)),oq 54 (.ext 0 (.t 50)),oq 55 (.ext 1 (.t 50)),oq 10 (.mv (.t 54)),oq 11 (.mv (.t 55))]) (.seq (.seq (.ops [ oq 56 (.mv (.t 11)),oq 57 (.bin .neq (.t 56) (.v (.int .i64 0)))]) (.cond (.t 57) (.seq (.ops [ oq 58 (.mv (.t 11)),oq 6 (.mv (.t 58))]) .ret) .skip)) (.seq (.ops [ oq 60 (.mv (.t 0)),oq 61 (.mv (.t 2)),oq 62 (.nc (.t 61)),oq 63 (.fa 1 (.t 62)),oq 64 (.ld none (.t 63)),oe 65 (.call 35 [(.t 60),(.t 64)]),oq 59 (.mv (.t 65)),oq 66 (.ext 0 (.t 59)),oq 67 (.ext 1 (.t 59)),oq 12 (.mv (.t 66)),oq 11 (.mv (.t 67))]) (.seq (.seq (.ops [ oq 68 (.mv (.t 11)),oq 69 (.bin .neq (.t 68) (.v (.int .i64 0)))]) (.cond (.t 69) (.seq (.ops [ oq 70 (.mv (.t 11)),oq 6 (.mv (.t 70))]) .ret) .skip)) (.seq (.ops [ oq 71 (.mv (.t 12)),oq 72 (.nc (.t 71)),oq 73 (.fa 3 (.t 72)),oq 74 (.ld none (.t 73)),oq 75 (.mv (.t 1)),oe 76 (.call 37 [(.t 74),(.t 75)]),oq 13 (.mv (.t 76))]) (.seq (.seq (.ops [ oq 77 (.mv (.t 13)),oq 78 (.bin .lss (.t 77) (.v (.int .i64 0)))]) (.cond (.t 78) (.seq (.ops [ oq 6 (.mv (.v (.int .i64 3)))]) .ret) .skip)) (.seq (.ops [ oq 79 (.mv (.t 12)),oq 80 (.nc (.t 79)),oq 81 (.fa 4 (.t 80)),oq 82 (.ld none (.t 81)),oq 83 (.mv (.t 13)),oq 84 (.mv (.t 2)),⟨some 85,none,.e (.call 71 [(.t 84)]),[⟨none,.ld none (.t 81),82⟩]⟩,oq 86 (.ia 1 (.t 82) (.t 83)),oz (.store 1 (.t 86) (.t 85))]) (.seq (.ops [ oq 87 (.mv (.t 12)),oq 88 (.mv (.t 12)),oq 89 (.nc (.t 88)),oq 90 (.fa 3 (.t 89)),oq 91 (.ld none (.t 90)),oq 92 (.mv (.t 13)),oq 93 (.bin .add (.t 92) (.v (.int .i64 1))),oq 94 (.mv (.t 10)),oq 95 (.bslv 1 [(.t 94)]),oe 96 (.call 72 [(.t 91),(.t 93),(.t 95)]),oq 97 (.nc (.t 87)),oq 98 (.fa 3 (.t 97)),oz (.store 1 (.t 98) (.t 96))]) (.seq (.ops [ oq 99 (.mv (.t 12)),oq 100 (.mv (.t 12)),oq 101 (.nc (.t 100)),oq 102 (.fa 4 (.t 101)),oq 103 (.ld none (.t 102)),oq 104 (.mv (.t 13)),oq 105 (.bin .add (.t 104) (.v (.int .i64 1))),oq 106 (.mv (.t 8)),⟨some 107,none,.e (.call 71 [(.t 106)]),[⟨none,.ld none (.t 102),103⟩]⟩,oq 108 (.bslv 1 [(.t 107)]),oe 109 (.call 72 [(.t 103),(.t 105),(.t 108)]),oq 110 (.nc (.t 99)),oq 111 (.fa 4 (.t 110)),oz (.store 1 (.t 111) (.t 109))]) (.ops [ oq 112 (.mv (.t 2)),oq 113 (.nc (.t 112)),oq 114 (.fa 1 (.t 113)),oq 115 (.ld none (.t 114)),oq 116 (.mv (.t 12)),oq 1 (.mv (.t 115)),oq 2 (.mv (.t 116))]))))))))))
def c32_69:ACode := .seq (.ops [ oq 15 (.bin .lss (.t 14) (.v (.int .i64 20)))]) (.seq (.cond (.t 15) .skip (.exit 0)) (.seq (.block 1 (.seq (.seq (.ops [ oq 16 (.mv (.t 2)),oe 17 (.call 54 [(.t 16)]),oq 18 (.mv (.t 2)),oe 19 (.call 65 [(.t 18)]),oq 20 (.bin .leq (.t 17) (.t 19))]) (.cond (.t 20) (.seq (.seq (.ops [ oq 21 (.mv (.t 0)),oq 22 (.mv (.t 1)),oq 23 (.mv (.t 2)),oe 24 (.call 66 [(.t 21),(.t 22),(.t 23)]),oq 7 (.mv (.t 24))]) (.seq (.ops [ oq 25 (.mv (.t 7)),oq 26 (.bin .neq (.t 25) (.v (.int .i64 0)))]) (.cond (.t 26) (.seq (.ops [ oq 27 (.mv (.t 7)),oq 6 (.mv (.t 27))]) .ret) .skip))) (.seq (.ops [ oq 28 (.mv (.t 0)),oq 29 (.mv (.t 1)),oq 30 (.mv (.t 2)),oe 31 (.call 67 [(.t 28),(.t 29),(.t 30)]),oq 6 (.mv (.t 31))]) .ret)) .skip)) (.seq (.seq (.ops [ oq 32 (.mv (.t 1)),oq 33 (.mv (.t 0)),oq 34 (.nc (.t 33)),oq 35 (.fa 1 (.t 34)),oq 36 (.ld none (.t 35)),oq 37 (.bin .eql (.t 32) (.t 36))]) (.cond (.t 37) (.seq (.ops [ oq 38 (.mv (.t 0)),oq 39 (.mv (.t 2)),oe 40 (.call 68 [(.t 38),(.t 39)]),oq 6 (.mv (.t 40))]) .ret) .skip)) (.seq (.ops [ oq 41 (.mv (.t 2)),oe 42 (.call 69 [(.t 41)]),oq 8 (.mv (.t 42))]) c32_61)))) (.ops [ oq 117 (.bin .add (.t 14) (.v (.int .i64 1))),oq 14 (.mv (.t 117))])))
def c32_76:ACode := .seq (.ops [ oq 6 (.mv (.v (.int .i64 0)))]) (.seq (.seq (.ops [ oq 14 (.mv (.v (.int .i64 0)))]) (.block 0 (.loop c32_69))) (.seq (.ops [ oq 6 (.mv (.v (.int .i64 3)))]) .ret))
@[go_sem] def c32_69_wp:=wp_of c32_69.eq_1
@[go_sem] def c32_76_wp:=wp_of c32_76.eq_1
def c32:AFn:=⟨118,[.t 6],c32_76⟩
theorem c32_ok:compF Tryz.prog Tryz.f32=some c32:=by kernel_rfl
theorem a32 {args:List AV} {σ:ASt} {R:AV->ASt->Prop} (hl:args.length<=118) (h:c32_76.wp Tryz.prog (RetQ [.t 6] R) (init args) σ):ACalls Tryz.prog 32 args σ R:=acalls_of Tryz.func32 c32_ok hl h
end Go.A
namespace Go.A
open Go.Proofs
section
variable {base base' σ σ':ASt} {p k page t root troot n s up:Nat} {m:Int} {pg:Pgs} {ids ds cs:List Nat} {r:Role} {T:Nat->Prop} {M:Nat->Option Nat}
theorem sqtell_none (hn:σ n=some r) (hr:SNodeR r (.leaf 0 ids)):ACalls Tryz.prog 67 [.ptr s 0,.int .i64 page,.ptr n 0] σ fun w σ'=>w = .int .i64 0/\σ'=σ:=by
 obtain ⟨k1,rfl⟩:=hr
 refine a67 (by simp) ?_
 simp (disch:=first|assumption|omega|(simp only [List.length_append,List.length_cons,List.length_nil];omega)) only [go_sem]
 refine wp_loop_on (fun (j:Nat) a1 s2=>(a1 0 = .ptr s 0/\a1 11 = .int .i64 0/\a1 2 = .ptr n 0)/\s2=σ) (fun i=>1-i) 0 ⟨?_,rfl⟩ ?_
 ·simp (disch:=first|assumption|omega|(simp only [List.length_append,List.length_cons,List.length_nil];omega)) only [go_sem]
 rintro j a1 s2 ⟨hf,rfl⟩
 simp (disch:=first|assumption|omega|(simp only [List.length_append,List.length_cons,List.length_nil];omega)) only [go_sem,hf,hn]
 exact retC_by (.refl _) (.refl _) ⟨rfl,rfl⟩
set_option maxHeartbeats 1000000 in
theorem sqgrow_stay (hp:PoolAt (base.set n (some r)) σ p m k pg) (hck:CkT base) (hnew:base n=none) (hs:base s=some (.obj [.ptr p 0,.int .i64 root,.ptr t 0])) (hr:SNodeR r (.leaf up ids)) (h48:ids.length<=48) (huu:up<60000) (hiu:u64L ids) {b0:List UInt8} (hq:pg page=some b0) {Q:Pgs->Prop}
  (htell:∀ σ' b',SLeaf b' up ids->PoolAt (base.set n (some r)) σ' p m k (pset pg page (some b'))->ACalls Tryz.prog 67 [.ptr s 0,.int .i64 page,.ptr n 0] σ' fun w σ2=>w = .int .i64 0/\∃ pg',Q pg'/\PoolAt (base.set n (some r)) σ2 p m k pg') :
  ACalls Tryz.prog 32 [.ptr s 0,.int .i64 page,.ptr n 0] σ fun w σ'=>w = .int .i64 0/\∃ pg',Q pg'/\PoolAt base σ' p m k pg':=by
 have hsn:s≠n:=fun e=>by rw [e,hnew] at hs;cases hs
 have hs2:=(ASt.set_ne (σ:=base) (r:=some r) hsn).trans hs
 have hn:=hp.at (ASt.set_same base n (some r))
 have hsz:=sqsize_ok hn hr (by show ids.length<=1000;omega)
 have hszz:(SN.leaf up ids).size=ids.length:=rfl
 rw [hszz] at hsz
 have hmo:ACalls Tryz.prog 65 [.ptr n 0] σ fun v σ'=>v = .int .i64 48/\σ'=σ:=by
  obtain ⟨k1,rfl⟩:=hr
  exact sqmost_ok hn
 have hle:(ids.length:Int)<=48:=by omega
 refine a32 (by simp) ?_
 simp (disch:=first|assumption|omega|(simp only [List.length_append,List.length_cons,List.length_nil];omega)) only [go_sem]
 refine wp_loop_on (fun (j:Nat) a1 s2=>(a1 0 = .ptr s 0/\a1 1 = .int .i64 page/\a1 14 = .int .i64 0/\a1 2 = .ptr n 0)/\s2=σ) (fun i=>1-i) 0 ⟨?_,rfl⟩ ?_
 ·simp (disch:=first|assumption|omega|(simp only [List.length_append,List.length_cons,List.length_nil];omega)) only [go_sem]
 rintro j a1 s2 ⟨hf,rfl⟩
 simp (disch:=first|assumption|omega|(simp only [List.length_append,List.length_cons,List.length_nil];omega)) only [go_sem,hf]
 refine hsz.mono ?_
 rintro w s3 ⟨rfl,rfl⟩
 simp (disch:=first|assumption|omega|(simp only [List.length_append,List.length_cons,List.length_nil];omega)) only [go_sem,hf]
 refine hmo.mono ?_
 rintro w s4 ⟨rfl,rfl⟩
 simp (disch:=first|assumption|omega|(simp only [List.length_append,List.length_cons,List.length_nil];omega)) only [go_sem,hf,hle]
 refine (sqstore_ok (nd := .leaf up ids) hp hs2 hq ⟨r,ASt.set_same _ _ _,hr⟩ ⟨h48,by omega,hiu⟩).mono ?_
 rintro w s5 ⟨rfl,b',hb',hp5⟩
 simp (disch:=first|assumption|omega|(simp only [List.length_append,List.length_cons,List.length_nil];omega)) only [go_sem,hf]
 refine (htell _ _ hb' hp5).mono ?_
 rintro w s6 ⟨rfl,pg',hQ,hp6⟩
 simp (disch:=first|assumption|omega|(simp only [List.length_append,List.length_cons,List.length_nil];omega)) only [go_sem,hf]
 exact retC_by (.refl _) (.refl _) ⟨rfl,pg',hQ,hp6.drop1 hnew hck⟩
theorem sqgrow_raise (hn:σ n=some r) (hr:SNodeR r (.leaf up ids)) (h48:48<ids.length) (hl:ids.length<=1000) (hs:σ s=some (.obj [.ptr p 0,.int .i64 root,.ptr t 0])) {Q:ASt->Prop}
  (hraise:ACalls Tryz.prog 68 [.ptr s 0,.ptr n 0] σ fun w σ'=>w = .int .i64 0/\Q σ') :
  ACalls Tryz.prog 32 [.ptr s 0,.int .i64 root,.ptr n 0] σ fun w σ'=>w = .int .i64 0/\Q σ':=by
 have hsz:=sqsize_ok hn hr (by show ids.length<=1000;omega)
 have hszz:(SN.leaf up ids).size=ids.length:=rfl
 rw [hszz] at hsz
 have hmo:ACalls Tryz.prog 65 [.ptr n 0] σ fun v σ'=>v = .int .i64 48/\σ'=σ:=by
  obtain ⟨k1,rfl⟩:=hr
  exact sqmost_ok hn
 have hle:¬ (ids.length:Int)<=48:=by omega
 refine a32 (by simp) ?_
 simp (disch:=first|assumption|omega|(simp only [List.length_append,List.length_cons,List.length_nil];omega)) only [go_sem]
 refine wp_loop_on (fun (j:Nat) a1 s2=>(a1 0 = .ptr s 0/\a1 1 = .int .i64 root/\a1 14 = .int .i64 0/\a1 2 = .ptr n 0)/\s2=σ) (fun i=>1-i) 0 ⟨?_,rfl⟩ ?_
 ·simp (disch:=first|assumption|omega|(simp only [List.length_append,List.length_cons,List.length_nil];omega)) only [go_sem]
 rintro j a1 s2 ⟨hf,rfl⟩
 simp (disch:=first|assumption|omega|(simp only [List.length_append,List.length_cons,List.length_nil];omega)) only [go_sem,hf]
 refine hsz.mono ?_
 rintro w s3 ⟨rfl,rfl⟩
 simp (disch:=first|assumption|omega|(simp only [List.length_append,List.length_cons,List.length_nil];omega)) only [go_sem,hf]
 refine hmo.mono ?_
 rintro w s4 ⟨rfl,rfl⟩
 simp (disch:=first|assumption|omega|(simp only [List.length_append,List.length_cons,List.length_nil];omega)) only [go_sem,hf,hle,hs]
 refine hraise.mono ?_
 rintro w s5 ⟨rfl,hQ⟩
 simp (disch:=first|assumption|omega|(simp only [List.length_append,List.length_cons,List.length_nil];omega)) only [go_sem,hf]
 exact retC_by (.refl _) (.refl _) ⟨rfl,hQ⟩
end
end Go.A
namespace Go.A
open Go.Proofs
/-! 8: (*tabular/seq.Seq).Insert -/
def c8_47:ACode := .seq (.ops [ oq 6 (.mv (.v (.int .i64 0)))]) (.seq (.seq (.ops [ oq 14 (.mv (.t 1)),oq 15 (.bin .lss (.t 14) (.v (.int .i64 0)))]) (.cond (.t 15) (.seq (.ops [ oq 6 (.mv (.v (.int .i64 1)))]) .ret) .skip)) (.seq (.ops [ oq 17 (.mv (.t 0)),oq 18 (.nc (.t 17)),oq 19 (.fa 2 (.t 18)),oq 20 (.ld none (.t 19)),oq 21 (.mv (.t 2)),oe 22 (.call 28 [(.t 20),(.t 21)]),oq 16 (.mv (.t 22)),oq 23 (.ext 0 (.t 16)),oq 24 (.ext 1 (.t 16)),oq 25 (.ext 2 (.t 16)),oq 7 (.mv (.t 23)),oq 8 (.mv (.t 24)),oq 9 (.mv (.t 25))]) (.seq (.seq (.ops [ oq 26 (.mv (.t 9)),oq 27 (.bin .neq (.t 26) (.v (.int .i64 0)))]) (.cond (.t 27) (.seq (.ops [ oq 28 (.mv (.t 9)),oq 6 (.mv (.t 28))]) .ret) .skip)) (.seq (.ops [ oq 30 (.mv (.t 0)),oq 31 (.mv (.t 1)),oe 32 (.call 29 [(.t 30),(.t 31)]),oq 29 (.mv (.t 32)),oq 33 (.ext 0 (.t 29)),oq 34 (.ext 1 (.t 29)),oq 35 (.ext 2 (.t 29)),oq 36 (.ext 3 (.t 29)),oq 10 (.mv (.t 33)),oq 11 (.mv (.t 34)),oq 12 (.mv (.t 35)),oq 9 (.mv (.t 36))]) (.seq (.seq (.ops [ oq 37 (.mv (.t 9)),oq 38 (.bin .neq (.t 37) (.v (.int .i64 0)))]) (.cond (.t 38) (.seq (.ops [ oq 39 (.mv (.t 9)),oq 6 (.mv (.t 39))]) .ret) .skip)) (.seq (.block 0 (.seq (.ops [ oq 41 (.mv (.t 12)),oq 42 (.mv (.t 10)),oq 43 (.nc (.t 42)),oq 44 (.fa 2 (.t 43)),oq 45 (.ld none (.t 44)),oq 46 (.len (.t 45)),oq 47 (.bin .gtr (.t 41) (.t 46)),oq 40 (.mv (.t 47))]) (.cond (.t 40) (.seq (.ops [ oq 6 (.mv (.v (.int .i64 1)))]) .ret) (.seq (.ops [ oq 49 (.mv (.t 8)),oq 48 (.mv (.t 49))]) (.cond (.t 48) (.seq (.ops [ oq 6 (.mv (.v (.int .i64 5)))]) .ret) .skip))))) (.seq (.ops [ oq 50 (.mv (.t 10)),oq 51 (.mv (.t 10)),oq 52 (.nc (.t 51)),oq 53 (.fa 2 (.t 52)),oq 54 (.ld none (.t 53)),oq 55 (.mv (.t 12)),oq 56 (.mv (.t 2)),oq 57 (.bslv 1 [(.t 56)]),oe 58 (.call 30 [(.t 54),(.t 55),(.t 57)]),oq 59 (.nc (.t 50)),oq 60 (.fa 2 (.t 59)),oz (.store 1 (.t 60) (.t 58))]) (.seq (.seq (.ops [ oq 61 (.mv (.t 0)),oq 62 (.nc (.t 61)),oq 63 (.fa 2 (.t 62)),oq 64 (.ld none (.t 63)),oq 65 (.mv (.t 2)),oq 66 (.mv (.t 11)),oq 67 (.conv .u64 (.t 66)),oe 68 (.call 31 [(.t 64),(.t 65),(.t 67)]),oq 13 (.mv (.t 68))]) (.seq (.ops [ oq 69 (.mv (.t 13)),oq 70 (.bin .neq (.t 69) (.v (.int .i64 0)))]) (.cond (.t 70) (.seq (.ops [ oq 71 (.mv (.t 13)),oq 6 (.mv (.t 71))]) .ret) .skip))) (.seq (.ops [ oq 72 (.mv (.t 0)),oq 73 (.mv (.t 11)),oq 74 (.mv (.t 10)),oe 75 (.call 32 [(.t 72),(.t 73),(.t 74)]),oq 6 (.mv (.t 75))]) .ret)))))))))
@[go_sem] def c8_47_wp:=wp_of c8_47.eq_1
def c8:AFn:=⟨76,[.t 6],c8_47⟩
theorem c8_ok:compF Tryz.prog Tryz.f8=some c8:=by kernel_rfl
theorem a8 {args:List AV} {σ:ASt} {R:AV->ASt->Prop} (hl:args.length<=76) (h:c8_47.wp Tryz.prog (RetQ [.t 6] R) (init args) σ):ACalls Tryz.prog 8 args σ R:=acalls_of Tryz.func8 c8_ok hl h
end Go.A
namespace Go.A
open Go.Proofs
section
variable {base base' σ σ':ASt} {p k page t root troot n s up:Nat} {m:Int} {pg:Pgs} {ids ds cs:List Nat} {r:Role} {T:Nat->Prop} {M:Nat->Option Nat}
def DownK (base:ASt) (p:Nat) (m:Int) (k:Nat) (pg:Pgs) (up:Nat) (ids:List Nat) (q i':Nat) (w:AV) (σ':ASt):Prop:=∃ n x base1,w = .tuple [.ptr n 0,.int .i64 q,.int .i64 i',.int .i64 0]/\LeafS base base1 n x up ids/\Only base base1 (nodeB n x (.sl .full []))/\PoolAt base1 σ' p m k pg
set_option maxHeartbeats 1000000 in
theorem sqins_of (h:PoolAt base σ p m k pg) (hs:base s=some (.obj [.ptr p 0,.int .i64 root,.ptr t 0])) (ht:base t=some (.obj [.ptr p 0,.int .i64 troot])) (hT:TrAt pg troot T M) (h60:∀ k v,M k=some v->k<60) {i id q i':Nat} (hid:id<60) (hM:M id=none) (hq:q<60000) (hi':i'<=ids.length) (hl:ids.length<=48) (hroom:(k:Int)+2<=m) {Q:ASt->Prop}
  (hdown:∀ σ,PoolAt base σ p m k pg->ACalls Tryz.prog 29 [.ptr s 0,.int .i64 i] σ (DownK base p m k pg up ids q i'))
  (hgrow:∀ n r σ k' pg' T',base n=none->SNodeR r (.leaf up (insL ids i' id))->k'<=k+2->TrAt pg' troot T' (upM M id (some q))->Fr T pg T' pg'->PoolAt (base.set n (some r)) σ p m k' pg'->ACalls Tryz.prog 32 [.ptr s 0,.int .i64 q,.ptr n 0] σ fun w σ'=>w = .int .i64 0/\Q σ') :
  ACalls Tryz.prog 8 [.ptr s 0,.int .i64 i,.int .u64 id] σ fun w σ'=>w = .int .i64 0/\Q σ':=by
 have hss:=h.at hs
 have hi0:¬ (i:Int)<0:=by omega
 have hget:=trget_at h ht hT id
 rw [hM] at hget
 have hg1:(none:Option Nat).getD 0=0:=rfl
 have hg2:(none:Option Nat).isSome=false:=rfl
 rw [hg1,hg2] at hget
 have wq:IntKind.wrap .u64 (q:Int)=(q:Int):=by rw [IntKind.wrap_u64];omega
 have hgt:¬ (ids.length:Int)<(i':Int):=by omega
 refine a8 (by simp) ?_
 simp (disch:=first|assumption|omega|(simp only [List.length_append,List.length_cons,List.length_nil];omega)) only [go_sem,hi0,hss]
 refine hget.mono ?_
 rintro w σ1 ⟨rfl,h1⟩
 simp (disch:=first|assumption|omega|(simp only [List.length_append,List.length_cons,List.length_nil];omega)) only [go_sem]
 refine (hdown σ1 h1).mono ?_
 rintro w σ2 ⟨n,x,base1,rfl,hm,hO,hp⟩
 have hn:=hp.at hm.hn
 have hcx:=hm.hx.cell
 have hlx:=hm.hx.len
 have hi1:=(hm.hx.mono (σ':=σ2) fun X r _ hX=>hp.at hX).ins64 (i:=i') (x:=id) hi' (by omega)
 simp (disch:=first|assumption|omega|(simp only [List.length_append,List.length_cons,List.length_nil];omega)) only [go_sem,hn,hcx,hlx,hgt]
 refine hi1.mono ?_
 rintro w σ3 ⟨rfl,rfl⟩
 have hn3:lessB σ2 x n=some (.obj [.bool true,.int .i64 up,x,.sl .full [],.sl .full []]):=(lessB_eq hm.nx).trans hn
 have hxn:=node_hard (ky := .u64) (ly := []) hO hm.new hm.hn hm.hx (OwnR.nil _ _ _) hm.nx (by intro h;cases h) (fun X _ h=>by cases h) h.ck hp (.obj [.bool true,.int .i64 up,.sl .shr (kv .u64 (insL ids i' id)),.sl .full [],.sl .full []])
 have hlb:lessB (lessB σ2 x) (.sl .full [])=lessB σ2 x:=rfl
 rw [hlb] at hxn
 have hr:SNodeR (.obj [.bool true,.int .i64 up,.sl .shr (kv .u64 (insL ids i' id)),.sl .full [],.sl .full []]) (.leaf up (insL ids i' id)):=⟨_,rfl⟩
 have hsn:s≠n:=fun e=>by rw [e,hm.new] at hs;cases hs
 have htn:t≠n:=fun e=>by rw [e,hm.new] at ht;cases ht
 have hs3:=hxn.at ((ASt.set_ne hsn).trans hs)
 rw [ASt.set_ne hsn] at hs3
 have hput:=trput_at hxn ((ASt.set_ne htn).trans ht) hT h60 (key:=id) (v:=q) hid (by omega) hroom
 generalize hKV:kv .u64 (insL ids i' id)=KV at *
 simp (disch:=first|assumption|omega|(simp only [List.length_append,List.length_cons,List.length_nil];omega)) only [go_sem,hn3,hcx,hs3,hsn,wq]
 refine hput.mono ?_
 rintro w σ4 ⟨rfl,k',pg',⟨hk',T',hT',hF⟩,hp4⟩
 simp (disch:=first|assumption|omega|(simp only [List.length_append,List.length_cons,List.length_nil];omega)) only [go_sem]
 refine (hgrow n _ σ4 k' pg' T' hm.new hr hk' hT' hF hp4).mono ?_
 rintro w σ5 ⟨rfl,hQ⟩
 simp (disch:=first|assumption|omega|(simp only [List.length_append,List.length_cons,List.length_nil];omega)) only [go_sem]
 exact retC_by (.refl _) (.refl _) ⟨rfl,hQ⟩
end
end Go.A
namespace Go.A
open Go.Proofs
/-! 99: (*tabular/seq.Seq).even -/
def c99_47:ACode := .seq (.ops [ oq 97 (.mv (.t 11)),oe 98 (.call 54 [(.t 97)]),oq 99 (.mv (.t 13)),oe 100 (.call 54 [(.t 99)]),oq 101 (.bin .add (.t 98) (.t 100)),oq 102 (.mv (.t 11)),oe 103 (.call 65 [(.t 102)]),oq 104 (.bin .leq (.t 101) (.t 103))]) (.cond (.t 104) (.seq (.ops [ oq 105 (.mv (.t 11)),oq 106 (.mv (.t 11)),oq 107 (.mv (.t 11)),oq 108 (.mv (.t 15)),oq 109 (.mv (.t 16)),oq 110 (.mv (.t 17)),oq 111 (.nc (.t 105)),oq 112 (.fa 2 (.t 111)),oz (.store 1 (.t 112) (.t 108)),oq 113 (.nc (.t 106)),oq 114 (.fa 3 (.t 113)),oz (.store 1 (.t 114) (.t 109)),oq 115 (.nc (.t 107)),oq 116 (.fa 4 (.t 115)),oz (.store 1 (.t 116) (.t 110))]) (.seq (.ops [ oq 117 (.mv (.t 2)),oq 118 (.mv (.t 2)),oq 119 (.mv (.t 2)),oq 120 (.nc (.t 119)),oq 121 (.fa 3 (.t 120)),oq 122 (.ld none (.t 121)),oq 123 (.mv (.t 3)),oq 124 (.bin .add (.t 123) (.v (.int .i64 1))),oq 125 (.mv (.t 3)),oq 126 (.bin .add (.t 125) (.v (.int .i64 2))),oq 128 (.mv (.t 2)),oq 129 (.nc (.t 128)),oq 130 (.fa 4 (.t 129)),oq 131 (.ld none (.t 130)),oq 132 (.mv (.t 3)),oq 133 (.bin .add (.t 132) (.v (.int .i64 1))),oq 134 (.mv (.t 3)),oq 135 (.bin .add (.t 134) (.v (.int .i64 2))),⟨some 127,none,.e (.call 115 [(.t 122),(.t 124),(.t 126)]),[⟨none,.ld none (.t 130),131⟩]⟩,oe 136 (.call 115 [(.t 131),(.t 133),(.t 135)]),oq 137 (.nc (.t 117)),oq 138 (.fa 3 (.t 137)),oz (.store 1 (.t 138) (.t 127)),oq 139 (.nc (.t 118)),oq 140 (.fa 4 (.t 139)),oz (.store 1 (.t 140) (.t 136))]) (.seq (.ops [ oq 141 (.mv (.t 2)),oq 142 (.nc (.t 141)),oq 143 (.fa 4 (.t 142)),oq 144 (.ld none (.t 143)),oq 145 (.mv (.t 3)),oq 146 (.mv (.t 11)),⟨some 147,none,.e (.call 71 [(.t 146)]),[⟨none,.ld none (.t 143),144⟩]⟩,oq 148 (.ia 1 (.t 144) (.t 145)),oz (.store 1 (.t 148) (.t 147))]) (.seq (.seq (.ops [ oq 149 (.mv (.t 0)),oq 150 (.mv (.t 9)),oq 151 (.mv (.t 11)),oe 152 (.call 66 [(.t 149),(.t 150),(.t 151)]),oq 18 (.mv (.t 152))]) (.seq (.ops [ oq 153 (.mv (.t 18)),oq 154 (.bin .neq (.t 153) (.v (.int .i64 0)))]) (.cond (.t 154) (.seq (.ops [ oq 155 (.mv (.t 18)),oq 8 (.mv (.t 155))]) .ret) .skip))) (.seq (.seq (.ops [ oq 156 (.mv (.t 0)),oq 157 (.mv (.t 9)),oq 158 (.mv (.t 11)),oq 159 (.mv (.t 14)),oq 160 (.mv (.t 11)),oe 161 (.call 54 [(.t 160)]),oe 162 (.call 94 [(.t 156),(.t 157),(.t 158),(.t 159),(.t 161)]),oq 19 (.mv (.t 162))]) (.seq (.ops [ oq 163 (.mv (.t 19)),oq 164 (.bin .neq (.t 163) (.v (.int .i64 0)))]) (.cond (.t 164) (.seq (.ops [ oq 165 (.mv (.t 19)),oq 8 (.mv (.t 165))]) .ret) .skip))) (.seq (.ops [ oq 166 (.mv (.t 0)),oq 167 (.nc (.t 166)),oq 168 (.fa 0 (.t 167)),oq 169 (.ld none (.t 168)),oq 170 (.mv (.t 10)),oe 171 (.call 114 [(.t 169),(.t 170)]),oq 8 (.mv (.t 171))]) .ret)))))) .skip)
def c99_80:ACode := .seq (.seq (.ops [ oq 178 (.mv (.t 11)),oq 179 (.nc (.t 178)),oq 180 (.fa 0 (.t 179)),oq 181 (.ld none (.t 180))]) (.cond (.t 181) (.ops [ oq 182 (.mv (.t 11)),oq 183 (.mv (.t 13)),oq 184 (.mv (.t 15)),oq 185 (.mv (.t 20)),oq 186 (.slto (false,1) (.t 184) (.t 185)),oq 187 (.mv (.t 15)),oq 188 (.mv (.t 20)),oq 189 (.slfrom (false,1) (.t 187) (.t 188)),oq 190 (.nc (.t 182)),oq 191 (.fa 2 (.t 190)),oz (.store 1 (.t 191) (.t 186)),oq 192 (.nc (.t 183)),oq 193 (.fa 2 (.t 192)),oz (.store 1 (.t 193) (.t 189))]) (.ops [ oq 194 (.mv (.t 11)),oq 195 (.mv (.t 11)),oq 196 (.mv (.t 13)),oq 197 (.mv (.t 13)),oq 198 (.mv (.t 16)),oq 199 (.mv (.t 20)),oq 200 (.slto (false,1) (.t 198) (.t 199)),oq 201 (.mv (.t 17)),oq 202 (.mv (.t 20)),oq 203 (.slto (false,1) (.t 201) (.t 202)),oq 204 (.mv (.t 16)),oq 205 (.mv (.t 20)),oq 206 (.slfrom (false,1) (.t 204) (.t 205)),oq 207 (.mv (.t 17)),oq 208 (.mv (.t 20)),oq 209 (.slfrom (false,1) (.t 207) (.t 208)),oq 210 (.nc (.t 194)),oq 211 (.fa 3 (.t 210)),oz (.store 1 (.t 211) (.t 200)),oq 212 (.nc (.t 195)),oq 213 (.fa 4 (.t 212)),oz (.store 1 (.t 213) (.t 203)),oq 214 (.nc (.t 196)),oq 215 (.fa 3 (.t 214)),oz (.store 1 (.t 215) (.t 206)),oq 216 (.nc (.t 197)),oq 217 (.fa 4 (.t 216)),oz (.store 1 (.t 217) (.t 209))]))) (.seq (.ops [ oq 218 (.mv (.t 2)),oq 219 (.nc (.t 218)),oq 220 (.fa 4 (.t 219)),oq 221 (.ld none (.t 220)),oq 222 (.mv (.t 3)),oq 223 (.mv (.t 2)),oq 224 (.nc (.t 223)),oq 225 (.fa 4 (.t 224)),oq 226 (.ld none (.t 225)),oq 227 (.mv (.t 3)),oq 228 (.bin .add (.t 227) (.v (.int .i64 1))),oq 229 (.mv (.t 11)),oq 231 (.mv (.t 13)),⟨some 230,none,.e (.call 71 [(.t 229)]),[⟨none,.ld none (.t 220),221⟩,⟨none,.ld none (.t 225),226⟩]⟩,⟨some 232,none,.e (.call 71 [(.t 231)]),[⟨none,.ld none (.t 220),221⟩,⟨none,.ld none (.t 225),226⟩]⟩,oq 233 (.ia 1 (.t 221) (.t 222)),oz (.store 1 (.t 233) (.t 230)),oq 234 (.ia 1 (.t 226) (.t 228)),oz (.store 1 (.t 234) (.t 232))]) (.seq (.seq (.ops [ oq 235 (.mv (.t 0)),oq 236 (.mv (.t 9)),oq 237 (.mv (.t 11)),oe 238 (.call 66 [(.t 235),(.t 236),(.t 237)]),oq 21 (.mv (.t 238))]) (.seq (.ops [ oq 239 (.mv (.t 21)),oq 240 (.bin .neq (.t 239) (.v (.int .i64 0)))]) (.cond (.t 240) (.seq (.ops [ oq 241 (.mv (.t 21)),oq 8 (.mv (.t 241))]) .ret) .skip))) (.seq (.seq (.ops [ oq 242 (.mv (.t 0)),oq 243 (.mv (.t 10)),oq 244 (.mv (.t 13)),oe 245 (.call 66 [(.t 242),(.t 243),(.t 244)]),oq 22 (.mv (.t 245))]) (.seq (.ops [ oq 246 (.mv (.t 22)),oq 247 (.bin .neq (.t 246) (.v (.int .i64 0)))]) (.cond (.t 247) (.seq (.ops [ oq 248 (.mv (.t 22)),oq 8 (.mv (.t 248))]) .ret) .skip))) (.seq (.seq (.ops [ oq 249 (.mv (.t 20)),oq 250 (.mv (.t 14)),oq 251 (.bin .gtr (.t 249) (.t 250))]) (.cond (.t 251) (.seq (.ops [ oq 252 (.mv (.t 0)),oq 253 (.mv (.t 9)),oq 254 (.mv (.t 11)),oq 255 (.mv (.t 14)),oq 256 (.mv (.t 20)),oe 257 (.call 94 [(.t 252),(.t 253),(.t 254),(.t 255),(.t 256)]),oq 8 (.mv (.t 257))]) .ret) .skip)) (.seq (.ops [ oq 258 (.mv (.t 0)),oq 259 (.mv (.t 10)),oq 260 (.mv (.t 13)),oq 261 (.mv (.t 14)),oq 262 (.mv (.t 20)),oq 263 (.bin .sub (.t 261) (.t 262)),oe 264 (.call 94 [(.t 258),(.t 259),(.t 260),(.v (.int .i64 0)),(.t 263)]),oq 8 (.mv (.t 264))]) .ret)))))
def c99_89:ACode := .seq (.ops [ oq 39 (.mv (.t 0)),oq 40 (.mv (.t 9)),oe 41 (.call 35 [(.t 39),(.t 40)]),oq 38 (.mv (.t 41)),oq 42 (.ext 0 (.t 38)),oq 43 (.ext 1 (.t 38)),oq 11 (.mv (.t 42)),oq 12 (.mv (.t 43))]) (.seq (.seq (.ops [ oq 44 (.mv (.t 12)),oq 45 (.bin .neq (.t 44) (.v (.int .i64 0)))]) (.cond (.t 45) (.seq (.ops [ oq 46 (.mv (.t 12)),oq 8 (.mv (.t 46))]) .ret) .skip)) (.seq (.ops [ oq 48 (.mv (.t 0)),oq 49 (.mv (.t 10)),oe 50 (.call 35 [(.t 48),(.t 49)]),oq 47 (.mv (.t 50)),oq 51 (.ext 0 (.t 47)),oq 52 (.ext 1 (.t 47)),oq 13 (.mv (.t 51)),oq 12 (.mv (.t 52))]) (.seq (.seq (.ops [ oq 53 (.mv (.t 12)),oq 54 (.bin .neq (.t 53) (.v (.int .i64 0)))]) (.cond (.t 54) (.seq (.ops [ oq 55 (.mv (.t 12)),oq 8 (.mv (.t 55))]) .ret) .skip)) (.seq (.seq (.ops [ oq 56 (.mv (.t 11)),oq 57 (.nc (.t 56)),oq 58 (.fa 0 (.t 57)),oq 59 (.ld none (.t 58)),oq 60 (.mv (.t 13)),oq 61 (.nc (.t 60)),oq 62 (.fa 0 (.t 61)),oq 63 (.ld none (.t 62)),oq 64 (.eq .b true (.t 59) (.t 63))]) (.cond (.t 64) (.seq (.ops [ oq 8 (.mv (.v (.int .i64 3)))]) .ret) .skip)) (.seq (.ops [ oq 65 (.mv (.t 11)),oe 66 (.call 54 [(.t 65)]),oq 14 (.mv (.t 66))]) (.seq (.ops [ oq 67 (.mv (.t 11)),oq 68 (.nc (.t 67)),oq 69 (.fa 2 (.t 68)),oq 70 (.ld none (.t 69)),oq 72 (.mv (.t 13)),oq 73 (.nc (.t 72)),oq 74 (.fa 2 (.t 73)),oq 75 (.ld none (.t 74)),oq 77 (.mv (.t 11)),oq 78 (.nc (.t 77)),oq 79 (.fa 3 (.t 78)),oq 80 (.ld none (.t 79)),oq 82 (.mv (.t 13)),oq 83 (.nc (.t 82)),oq 84 (.fa 3 (.t 83)),oq 85 (.ld none (.t 84)),oq 87 (.mv (.t 11)),oq 88 (.nc (.t 87)),oq 89 (.fa 4 (.t 88)),oq 90 (.ld none (.t 89)),oq 92 (.mv (.t 13)),oq 93 (.nc (.t 92)),oq 94 (.fa 4 (.t 93)),oq 95 (.ld none (.t 94)),⟨some 71,none,.e (.call 92 [(.t 70)]),[⟨none,.ld none (.t 74),75⟩,⟨none,.ld none (.t 79),80⟩,⟨none,.ld none (.t 84),85⟩,⟨none,.ld none (.t 89),90⟩,⟨none,.ld none (.t 94),95⟩]⟩,⟨some 76,none,.e (.app 33 1 8 [(.int .u64 0)] (.t 71) (.t 75)),[⟨none,.ld none (.t 79),80⟩,⟨none,.ld none (.t 84),85⟩,⟨none,.ld none (.t 89),90⟩,⟨none,.ld none (.t 94),95⟩]⟩,⟨some 81,none,.e (.call 93 [(.t 80)]),[⟨none,.ld none (.t 84),85⟩,⟨none,.ld none (.t 89),90⟩,⟨none,.ld none (.t 94),95⟩]⟩,⟨some 86,none,.e (.app 3 1 8 [(.int .i64 0)] (.t 81) (.t 85)),[⟨none,.ld none (.t 89),90⟩,⟨none,.ld none (.t 94),95⟩]⟩,⟨some 91,none,.e (.call 93 [(.t 90)]),[⟨none,.ld none (.t 94),95⟩]⟩,oe 96 (.app 3 1 8 [(.int .i64 0)] (.t 91) (.t 95)),oq 15 (.mv (.t 76)),oq 16 (.mv (.t 86)),oq 17 (.mv (.t 96))]) (.seq c99_47 (.seq (.ops [ oq 172 (.mv (.t 11)),oe 173 (.call 54 [(.t 172)]),oq 174 (.mv (.t 13)),oe 175 (.call 54 [(.t 174)]),oq 176 (.bin .add (.t 173) (.t 175)),oq 177 (.bin .quo (.t 176) (.v (.int .i64 2))),oq 20 (.mv (.t 177))]) c99_80))))))))
def c99_91:ACode := .seq (.ops [ oq 8 (.mv (.v (.int .i64 0)))]) (.seq (.ops [ oq 23 (.mv (.t 2)),oq 24 (.nc (.t 23)),oq 25 (.fa 3 (.t 24)),oq 26 (.ld none (.t 25)),oq 27 (.mv (.t 3)),oq 28 (.ia 1 (.t 26) (.t 27)),oq 29 (.ld none (.t 28)),oq 30 (.mv (.t 2)),oq 31 (.nc (.t 30)),oq 32 (.fa 3 (.t 31)),oq 33 (.ld none (.t 32)),oq 34 (.mv (.t 3)),oq 35 (.bin .add (.t 34) (.v (.int .i64 1))),oq 36 (.ia 1 (.t 33) (.t 35)),oq 37 (.ld none (.t 36)),oq 9 (.mv (.t 29)),oq 10 (.mv (.t 37))]) c99_89)
@[go_sem] def c99_47_wp:=wp_of c99_47.eq_1
@[go_sem] def c99_80_wp:=wp_of c99_80.eq_1
@[go_sem] def c99_89_wp:=wp_of c99_89.eq_1
@[go_sem] def c99_91_wp:=wp_of c99_91.eq_1
def c99:AFn:=⟨265,[.t 8],c99_91⟩
theorem c99_ok:compF Tryz.prog Tryz.f99=some c99:=by kernel_rfl
theorem a99 {args:List AV} {σ:ASt} {R:AV->ASt->Prop} (hl:args.length<=265) (h:c99_91.wp Tryz.prog (RetQ [.t 8] R) (init args) σ):ACalls Tryz.prog 99 args σ R:=acalls_of Tryz.func99 c99_ok hl h
end Go.A
namespace Go.A
open Go.Proofs
section
variable {base base1 σ σ':ASt} {p k page t root troot n s up:Nat} {m:Int} {pg:Pgs} {ids ds cs A B:List Nat} {r:Role} {T:Nat->Prop} {M:Nat->Option Nat}
def EvenK (base:ASt) (p:Nat) (m:Int) (k:Nat) (pg:Pgs) (troot root:Nat) (T:Nat->Prop) (nv a b:Nat) (y:AV) (L:List Nat) (h e:Nat) (Z cZ:Nat) (MM:(Nat->Option Nat)->Prop) (w:AV) (σ':ASt):Prop:=
 w = .int .i64 0/\∃ (base3:ASt) (b1 b2:List UInt8) (k':Nat) (pg':Pgs) (T':Nat->Prop) (M':Nat->Option Nat),InnerS base base3 nv y (.msl Z 0 2 cZ) 0 [a,b] [h,L.length-h]/\MM M'/\k'<=k+e/\(pg' a=some b1/\SLeaf b1 root (L.take h)/\¬ T' a)/\(pg' b=some b2/\SLeaf b2 root (L.drop h)/\¬ T' b) ∧
  (∀ x,x≠a->x≠b->¬ T x->pg x≠none->¬ T' x/\pg' x=pg x)/\TrAt pg' troot T' M'/\PoolAt base3 σ' p m k' pg'
set_option maxHeartbeats 4000000 in
theorem sqeven_ok {nv a b ca cb Z cZ:Nat} {y:AV} {b1 b2:List UInt8} (hm:InnerS base base1 nv y (.msl Z 0 2 cZ) 0 [a,b] [ca,cb]) (hp:PoolAt base1 σ p m k pg) (hck:CkT base) (hs:base s=some (.obj [.ptr p 0,.int .i64 root,.ptr t 0])) (ht:base t=some (.obj [.ptr p 0,.int .i64 troot]))
  (hab:a≠b) (hqa:pg a=some b1) (hqb:pg b=some b2) (hla:SLeaf b1 root A) (hlb:SLeaf b2 root B) (hA:A ≠ []) (hB:B ≠ []) (h48:48<A.length+B.length) {h:Nat} (hh:h=(A.length+B.length) / 2) (h60:∀ k v,M k=some v->k<60) (hi60:∀ x∈A++B,x<60)
  (hT:TrAt pg troot T M) (hTa:¬ T a) (hTb:¬ T b) (hroom:(k:Int)+(2*(h-A.length)+2*(A.length-h):Nat)<=m) :
  ACalls Tryz.prog 99 [.ptr s 0,.int .i64 root,.ptr nv 0,.int .i64 0] σ (EvenK base p m k pg troot root T nv a b y (A++B) h (2*(h-A.length)+2*(A.length-h)) Z cZ fun M'=>M'=if A.length<h then adL M ((A++B).take h |>.drop A.length) a else adL M (((A++B).drop h).take (A.length-h)) b):=by
 obtain ⟨L,hL⟩:∃ L,L=A++B:=⟨_,rfl⟩
 have hLl:L.length=A.length+B.length:=by rw [hL,List.length_append]
 have ma:=hla.most
 have mb:=hlb.most
 have hLu:u64L L:=fun x hx=>by rw [hL] at hx;exact (List.mem_append.1 hx).elim (hla.iu x) (hlb.iu x)
 rw [<-hL] at hi60 ⊢
 obtain ⟨K,hK⟩:∃ K:AV->ASt->Prop,K=EvenK base p m k pg troot root T nv a b y L h (2*(h-A.length)+2*(A.length-h)) Z cZ fun M'=>M'=if A.length<h then adL M (L.take h |>.drop A.length) a else adL M ((L.drop h).take (A.length-h)) b:=⟨_,rfl⟩
 rw [<-hK]
 obtain ⟨Y,cY,RY,rfl,hY1,hY2,hY3⟩:=hm.hy.resolve_left fun q=>by cases q.2
 have hlen2 : [a,b].length=2:=rfl
 rw [hlen2] at hm hY3
 have hv:=hp.at hm.hn
 have hY:=hp.at hY1
 have g1:(kv .i64 [a,b]++RY)[0]? = some (.int .i64 a):=rfl
 have g2:(kv .i64 [a,b]++RY)[1]? = some (.int .i64 b):=rfl
 have z0:(0:Int).toNat=0:=rfl
 have z1:(1:Int).toNat=1:=rfl
 generalize hYY:kv .i64 [a,b]++RY=YY at *
 have hs1:=hm.kept _ _ hs
 have ht1:=hm.kept _ _ ht
 have hck1:=hp.ck
 have hlen2':((2:Nat):Int)=2:=rfl
 refine a99 (by simp) ?_
 simp (disch:=first|assumption|omega|(simp only [List.length_append,List.length_cons,List.length_nil];omega)) only [go_sem,hv,hY,hlen2,hlen2',g1,g2,z0,z1,Nat.zero_add]
 refine (sqload_ok (nd := .leaf root A) hp hs1 hqa hla).mono ?_
 rintro w σ1 ⟨na,ra,rfl,hna,hra,hp1⟩
 have hsna:s≠na:=fun e=>by rw [e,hna] at hs1;cases hs1
 have htna:t≠na:=fun e=>by rw [e,hna] at ht1;cases ht1
 simp (disch:=first|assumption|omega|(simp only [List.length_append,List.length_cons,List.length_nil];omega)) only [go_sem]
 refine (sqload_ok (nd := .leaf root B) hp1 ((ASt.set_ne hsna).trans hs1) hqb hlb).mono ?_
 rintro w σ2 ⟨nb,rb,rfl,hnb,hrb,hp2⟩
 have hab2:na≠nb:=fun e=>by rw [<-e,ASt.set_same] at hnb;cases hnb
 have hnb1:base1 nb=none:=by rw [ASt.set_ne (Ne.symm hab2)] at hnb;exact hnb
 obtain ⟨ka,rfl⟩:=hra
 obtain ⟨kb,rfl⟩:=hrb
 have hk0:Kept base1 ((base1.set na (some (.obj [.bool true,.int .i64 root,.sl ka (kv .u64 A),.sl .full [],.sl .full []]))).set nb (some (.obj [.bool true,.int .i64 root,.sl kb (kv .u64 B),.sl .full [],.sl .full []]))):=((Kept.refl base1).set hna).set hnb1
 have hb0:=ASt.set_same (base1.set na (some (.obj [.bool true,.int .i64 root,.sl ka (kv .u64 A),.sl .full [],.sl .full []]))) nb (some (.obj [.bool true,.int .i64 root,.sl kb (kv .u64 B),.sl .full [],.sl .full []]))
 have ha0:((base1.set na (some (.obj [.bool true,.int .i64 root,.sl ka (kv .u64 A),.sl .full [],.sl .full []]))).set nb (some (.obj [.bool true,.int .i64 root,.sl kb (kv .u64 B),.sl .full [],.sl .full []]))) na=some (.obj [.bool true,.int .i64 root,.sl ka (kv .u64 A),.sl .full [],.sl .full []]):=by rw [ASt.set_ne hab2,ASt.set_same]
 generalize (base1.set na (some (.obj [.bool true,.int .i64 root,.sl ka (kv .u64 A),.sl .full [],.sl .full []]))).set nb (some (.obj [.bool true,.int .i64 root,.sl kb (kv .u64 B),.sl .full [],.sl .full []]))=B0 at *
 have sa:=hp2.at ha0
 have sb:=hp2.at hb0
 have hsza:=fun (τ:ASt) (q:τ na=some (.obj [.bool true,.int .i64 root,.sl ka (kv .u64 A),.sl .full [],.sl .full []]))=>sqsize_ok (nd := .leaf root A) q ⟨ka,rfl⟩ (by show A.length<=1000;omega)
 have hszb:=fun (τ:ASt) (q:τ nb=some (.obj [.bool true,.int .i64 root,.sl kb (kv .u64 B),.sl .full [],.sl .full []]))=>sqsize_ok (nd := .leaf root B) q ⟨kb,rfl⟩ (by show B.length<=1000;omega)
 have es1:(SN.leaf root A).size=A.length:=rfl
 have es2:(SN.leaf root B).size=B.length:=rfl
 rw [es1] at hsza
 rw [es2] at hszb
 simp (disch:=first|assumption|omega|(simp only [List.length_append,List.length_cons,List.length_nil];omega)) only [go_sem,sa,sb]
 refine (hsza _ sa).mono ?_
 rintro w σ3 ⟨rfl,rfl⟩
 simp (disch:=first|assumption|omega|(simp only [List.length_append,List.length_cons,List.length_nil];omega)) only [go_sem,sa,sb]
 refine (xClo64_P ka hp2 hk0 hck1 hA (by omega)).mono ?_
 rintro v0 σ4 ⟨B1,hp3,hk1,hkk1,hf1,ho1⟩
 have a1:=hkk1 _ _ ha0
 have b1':=hkk1 _ _ hb0
 have sa1:=hp3.at a1
 have sb1:=hp3.at b1'
 simp (disch:=first|assumption|omega|(simp only [List.length_append,List.length_cons,List.length_nil];omega)) only [go_sem,sa1,sb1]
 refine ho1.appsP hp3 hk1 hck1 (by omega) hB fun v1 σ5 B2 hp4 hk2 hs2 hf2 ho2=>?_
 have a2:=hs2 _ _ a1 (fun e=>by have:=hf1 na e;rw [ha0] at this;cases this)
 have b2':=hs2 _ _ b1' (fun e=>by have:=hf1 nb e;rw [hb0] at this;cases this)
 have sa2:=hp4.at a2
 have sb2:=hp4.at b2'
 rw [<-hL] at ho2
 simp (disch:=first|assumption|omega|(simp only [List.length_append,List.length_cons,List.length_nil];omega)) only [go_sem,sa2,sb2]
 refine xCloI_nil.mono ?_
 rintro w σ6 ⟨rfl,rfl⟩
 simp (disch:=first|assumption|omega|(simp only [List.length_append,List.length_cons,List.length_nil];omega)) only [go_sem,sa2,sb2]
 refine app0_by rfl (by decide) (by decide) ?_
 simp (disch:=first|assumption|omega|(simp only [List.length_append,List.length_cons,List.length_nil];omega)) only [go_sem,sa2,sb2]
 refine xCloI_nil.mono ?_
 rintro w σ7 ⟨rfl,rfl⟩
 simp (disch:=first|assumption|omega|(simp only [List.length_append,List.length_cons,List.length_nil];omega)) only [go_sem,sa2,sb2]
 refine app0_by rfl (by decide) (by decide) ?_
 simp (disch:=first|assumption|omega|(simp only [List.length_append,List.length_cons,List.length_nil];omega)) only [go_sem,sa2,sb2]
 have hmo:=sqmost_ok (n:=na) (σ:=σ7) sa2
 have hno:¬ (A.length:Int)+(B.length:Int)<=48:=by omega
 refine (hsza _ sa2).mono ?_
 rintro w σ8 ⟨rfl,rfl⟩
 simp (disch:=first|assumption|omega|(simp only [List.length_append,List.length_cons,List.length_nil];omega)) only [go_sem]
 refine (hszb _ sb2).mono ?_
 rintro w σ9 ⟨rfl,rfl⟩
 simp (disch:=first|assumption|omega|(simp only [List.length_append,List.length_cons,List.length_nil];omega)) only [go_sem]
 refine hmo.mono ?_
 rintro w σ10 ⟨rfl,rfl⟩
 simp (disch:=first|assumption|omega|(simp only [List.length_append,List.length_cons,List.length_nil];omega)) only [go_sem,hno]
 refine (hsza _ sa2).mono ?_
 rintro w σ11 ⟨rfl,rfl⟩
 simp (disch:=first|assumption|omega|(simp only [List.length_append,List.length_cons,List.length_nil];omega)) only [go_sem]
 refine (hszb _ sb2).mono ?_
 rintro w σ12 ⟨rfl,rfl⟩
 have w1:IntKind.wrap .i64 (((A.length:Int)+(B.length:Int)).tdiv 2)=(h:Int):=by
  rw [Int.tdiv_eq_ediv_of_nonneg (by omega),show ((A.length:Int)+(B.length:Int)) / 2=(h:Int) by omega]
  rw [IntKind.wrap_i64]
  omega
 have hLn:L ≠ []:=fun e=>by rw [e] at hLl;simp only [List.length_nil] at hLl;omega
 obtain ⟨X1,c1,R1,rfl,x1,x2,x3,x4,x5⟩:=ho2.resolve_left fun q=>hLn q.2
 have hhd:∀ {cs:List AV} {n:Nat},B2 n=some (.obj (.bool true::cs))->X1≠n:=fun {cs n} h2 e=>by
  rw [e,h2] at x1
  injection x1 with h1
  injection h1 with h1
  cases L with
  | nil=>exact hLn rfl
  | cons a L=>cases h1
 have n1a:=hhd a2
 have n1b:=hhd b2'
 clear hhd
 have s1:slV (false,1) (.msl X1 0 L.length c1) 0 (h:Int)=some (.msl X1 0 h c1):=slV_nat (b:=X1) (o:=0) (n:=L.length) (c:=c1) (lo:=0) (hi:=h) (by omega) (by omega) (by omega)
 have s3:slV (false,1) (.msl X1 0 L.length c1) (h:Int) (L.length:Int)=some (.msl X1 h (L.length-h) (c1-h)):=by
  have:=slV_nat (b:=X1) (o:=0) (n:=L.length) (c:=c1) (lo:=h) (hi:=L.length) (by omega) (by omega) (by omega)
  rw [Nat.zero_add] at this
  exact this
 have hp5:=(hp4.set (x:=na) (some (.obj [.bool true,.int .i64 root,.msl X1 0 h c1,.sl .full [],.sl .full []])) (.inl (by rw [a2];simp)) (ck_ne hck1 hna)).set (x:=nb) (some (.obj [.bool true,.int .i64 root,.msl X1 h (L.length-h) (c1-h),.sl .full [],.sl .full []])) (.inl (by rw [ASt.set_ne (Ne.symm hab2),b2'];simp)) (ck_ne hck1 hnb1)
 have hnva:nv≠na:=fun e=>by have:=hm.hn;rw [e,hna] at this;cases this
 have hnvb:nv≠nb:=fun e=>by have:=hm.hn;rw [e,hnb1] at this;cases this
 have e1:L.drop 0=L:=List.drop_zero
 have e3:(L.drop h).take (L.length-h)=L.drop h:=List.take_of_length_le (by rw [List.length_drop];omega)
 obtain ⟨τ,gd,hp6⟩:=soft2 (base:=base1) (na:=na) (nb:=nb) (D:=fun z=>z=X1) (csa' := [.bool true,.int .i64 root,.sl .shr (kv .u64 ((L.drop 0).take h)),.sl .full [],.sl .full []]) (csb' := [.bool true,.int .i64 root,.sl .shr (kv .u64 ((L.drop h).take (L.length-h))),.sl .full [],.sl .full []])
  ((hk2.set hna).set hnb1) hab2 hna hnb1 ((ASt.set_ne hab2).trans (ASt.set_same _ _ _)) (ASt.set_same _ _ _) (fun z hz=>by
    subst hz
    exact ⟨x2,by rw [ASt.set_ne n1b,ASt.set_ne n1a,x1];simp,n1a,n1b⟩) hck1 hp5 fun σ2 hD=>by
     have d1:=hD X1 rfl
     have hX5:=hp5.at ((ASt.set_ne n1b).trans ((ASt.set_ne n1a).trans x1))
     exact ⟨.cons (.refl _) (.cons (.refl _) (.cons (fz_part hX5 d1 (by omega) (by omega)) (.cons (.refl _) (.cons (.refl _) .nil)))),.cons (.refl _) (.cons (.refl _) (.cons (fz_part hX5 d1 (by omega) (by omega)) (.cons (.refl _) (.cons (.refl _) .nil))))⟩
 rw [e1,e3] at hp6
 have hv12:=hp4.at (hk2 _ _ hm.hn)
 have hra:SNodeR (.obj [.bool true,.int .i64 root,.sl .shr (kv .u64 (L.take h)),.sl .full [],.sl .full []]) (.leaf root (L.take h)):=⟨_,rfl⟩
 have hrb:SNodeR (.obj [.bool true,.int .i64 root,.sl .shr (kv .u64 (L.drop h)),.sl .full [],.sl .full []]) (.leaf root (L.drop h)):=⟨_,rfl⟩
 have hTk:(L.take h).length=h:=by rw [List.length_take];omega
 have hDr:(L.drop h).length=L.length-h:=List.length_drop
 generalize hRA:Role.obj [.bool true,.int .i64 root,.sl .shr (kv .u64 (L.take h)),.sl .full [],.sl .full []]=RA at *
 generalize hRB:Role.obj [.bool true,.int .i64 root,.sl .shr (kv .u64 (L.drop h)),.sl .full [],.sl .full []]=RB at *
 have hN1:((base1.set na (some RA)).set nb (some RB)) na=some RA:=by rw [ASt.set_ne hab2,ASt.set_same]
 have hN2:((base1.set na (some RA)).set nb (some RB)) nb=some RB:=ASt.set_same _ _ _
 have hc1:=sqcount_leaf (hp6.at hN1) hra
 have hc2:=sqcount_leaf (hp6.at hN2) hrb
 rw [hTk] at hc1
 rw [hDr] at hc2
 simp (disch:=first|assumption|omega|(simp only [List.length_append,List.length_cons,List.length_nil];omega)) only [go_sem,w1,s1,s3,sa2,sb2,n1a,n1b,hab2,hnva,hnvb,hv12]
 refine (hc1.wk gd.wk).mono ?_
 rintro w σ13 ⟨rfl,rfl⟩
 have hBne:∀ {z q},base1 z=some q->((base1.set na (some RA)).set nb (some RB)) z=some q:=fun {z q} hz=>by
  rw [ASt.set_ne (fun e=>by rw [e,hnb1] at hz;cases hz),ASt.set_ne (fun e=>by rw [e,hna] at hz;cases hz)];exact hz
 have hv13:=hp6.at (hBne hm.hn)
 obtain ⟨Z',cz',RZ,hz0,hZ1,hZ2,hZ3⟩:=hm.hz.resolve_left fun q=>by cases q.2
 obtain ⟨rfl,rfl⟩:Z=Z'/\cZ=cz':=by
  injection hz0 with e1 e2 e3 e4
  exact ⟨e1,e4⟩
 have hZ13:=hp6.at (hBne hZ1)
 have hnvZ:nv≠Z:=fun e=>hm.nz (by rw [e];rfl)
 have hZl:(kv .i64 [ca,cb]++RZ) = .int .i64 ca :: .int .i64 cb::RZ:=rfl
 rw [hZl] at hZ13
 simp (disch:=first|assumption|omega|(simp only [List.length_append,List.length_cons,List.length_nil];omega)) only [go_sem,hv13]
 refine hc2.mono ?_
 rintro w σ14 ⟨rfl,rfl⟩
 simp (disch:=first|assumption|omega|(simp only [List.length_append,List.length_cons,List.length_nil];omega)) only [go_sem,hv13,hZ13,hnvZ,hlen2',z0,z1,Nat.zero_add]
 obtain ⟨rz,hrz⟩:∃ rz,rz=Role.obj (.int .i64 h :: .int .i64 (L.length-h:Nat)::RZ):=⟨_,rfl⟩
 have hp7:=hp6.set (x:=Z) (some rz) (.inl (by rw [hBne hZ1];simp)) (ck_ne hck hZ2)
 have hZna:Z≠na:=fun e=>by rw [e,hna] at hZ1;cases hZ1
 have hZnb:Z≠nb:=fun e=>by rw [e,hnb1] at hZ1;cases hZ1
 rw [set_swap (Ne.symm hZnb),set_swap (Ne.symm hZna)] at hp7
 have hm3:InnerS base (base1.set Z (some rz)) nv (.msl Y 0 2 cY) (.msl Z 0 2 cZ) 0 [a,b] [h,L.length-h]:=by
  refine ⟨hm.kept.set hZ2,hm.new,(ASt.set_ne hnvZ).trans hm.hn,hm.hy.set (fun e=>hm.yz Z e rfl),.inr ⟨Z,cZ,RZ,rfl,by rw [ASt.set_same,hrz];rfl,hZ2,hZ3.1,hZ3.2.1,hZ3.2.2⟩,hm.ny,hm.nz,hm.yz⟩
 rw [<-hrz]
 have hck3:=hck1.away (r:=some rz) (ck_ne hck hZ2)
 have hna3:(base1.set Z (some rz)) na=none:=by rw [ASt.set_ne (Ne.symm hZna)];exact hna
 have hnb3:(base1.set Z (some rz)) nb=none:=by rw [ASt.set_ne (Ne.symm hZnb)];exact hnb1
 have hs3:=hm3.kept _ _ hs
 have ht3:=hm3.kept _ _ ht
 generalize base1.set Z (some rz)=base3 at *
 have hB3:∀ {z q},base3 z=some q->((base3.set na (some RA)).set nb (some RB)) z=some q:=fun {z q} hz=>by
  rw [ASt.set_ne (fun e=>by rw [e,hnb3] at hz;cases hz),ASt.set_ne (fun e=>by rw [e,hna3] at hz;cases hz)];exact hz
 have hM1:((base3.set na (some RA)).set nb (some RB)) na=some RA:=by rw [ASt.set_ne hab2,ASt.set_same]
 have hM2:((base3.set na (some RA)).set nb (some RB)) nb=some RB:=ASt.set_same _ _ _
 have hroot:root<4294967296:=hla.uu
 have uT:u64L (L.take h):=u64L_take hLu
 have uD:u64L (L.drop h):=u64L_drop hLu
 have okA:(SN.leaf root (L.take h)).ok:=⟨by omega,hroot,uT⟩
 have okB:(SN.leaf root (L.drop h)).ok:=⟨by omega,hroot,uD⟩
 refine (sqstore_ok (nd := .leaf root (L.take h)) hp7 (hB3 hs3) hqa ⟨RA,hM1,hra⟩ okA).mono ?_
 rintro w σ15 ⟨rfl,q1,hq1,hp8⟩
 simp (disch:=first|assumption|omega|(simp only [List.length_append,List.length_cons,List.length_nil];omega)) only [go_sem]
 refine (sqstore_ok (nd := .leaf root (L.drop h)) hp8 (hB3 hs3) (by rw [pset_ne (Ne.symm hab)];exact hqb) ⟨RB,hM2,hrb⟩ okB).mono ?_
 rintro w σ16 ⟨rfl,q2,hq2,hp9⟩
 simp (disch:=first|assumption|omega|(simp only [List.length_append,List.length_cons,List.length_nil];omega)) only [go_sem]
 have hT9:TrAt (pset (pset pg a (some q1)) b (some q2)) troot T M:=hT.frame fun x hx=>by rw [pset_ne (fun (e:x=b)=>hTb (e▸hx)),pset_ne (fun (e:x=a)=>hTa (e▸hx))]
 have fin:∀ {pg':Pgs} {T':Nat->Prop},Fr T (pset (pset pg a (some q1)) b (some q2)) T' pg'->(pg' a=some q1/\SLeaf q1 root (L.take h)/\¬ T' a)/\(pg' b=some q2/\SLeaf q2 root (L.drop h)/\¬ T' b)/\(∀ x,x≠a->x≠b->¬ T x->pg x≠none->¬ T' x/\pg' x=pg x):=fun {pg' T'} hF=>by
  obtain ⟨f1,f2⟩:=hF a hTa (by rw [pset_ne hab,pset_same];simp)
  obtain ⟨f3,f4⟩:=hF b hTb (by rw [pset_same];simp)
  rw [pset_ne hab,pset_same] at f2
  rw [pset_same] at f4
  refine ⟨⟨f2,hq1,f1⟩,⟨f4,hq2,f3⟩,fun x x1 x2 x3 x4=>?_⟩
  obtain ⟨f5,f6⟩:=hF x x3 (by rw [pset_ne x2,pset_ne x1];exact x4)
  exact ⟨f5,by rw [f6,pset_ne x2,pset_ne x1]⟩
 have pra:=(hp.rng hqa).2
 have prb:=(hp.rng hqb).2
 by_cases hlt:A.length<h
 ·have hlt':(A.length:Int)<(h:Int):=by omega
  have had:=sqadopt_leaf (page:=a) hp9 (hB3 hs3) (hB3 ht3) hM1 hra hT9 h60 (fun x hx=>hi60 x (List.mem_of_mem_take hx)) pra (a:=A.length) (z:=h) (by omega) (by omega) (by omega) (by omega)
  rw [List.take_take,Nat.min_self] at had
  simp (disch:=first|assumption|omega|(simp only [List.length_append,List.length_cons,List.length_nil];omega)) only [go_sem,hlt']
  refine had.mono ?_
  rintro w σ17 ⟨rfl,k',pg',T',hk',hT',hF,hp10⟩
  simp (disch:=first|assumption|omega|(simp only [List.length_append,List.length_cons,List.length_nil];omega)) only [go_sem]
  obtain ⟨r1,r2,r3⟩:=fin hF
  rw [hK]
  exact retC_by (.refl _) (.refl _) ⟨rfl,base3,q1,q2,k',pg',T',_,hm3,by rw [if_pos hlt],by omega,r1,r2,r3,hT',(hp10.drop1 (by rw [ASt.set_ne (Ne.symm hab2)];exact hnb3) (hck3.away (ck_ne hck3 hna3))).drop1 hna3 hck3⟩
 ·have hlt':¬ (A.length:Int)<(h:Int):=by omega
  have e5:(A.length:Int)-(h:Int)=((A.length-h:Nat):Int):=by omega
  have had:=sqadopt_leaf (page:=b) hp9 (hB3 hs3) (hB3 ht3) hM2 hrb hT9 h60 (fun x hx=>hi60 x (List.mem_of_mem_drop hx)) prb (a:=0) (z:=A.length-h) (by omega) (by omega) (by omega) (by omega)
  rw [List.drop_zero,Nat.sub_zero] at had
  simp (disch:=first|assumption|omega|(simp only [List.length_append,List.length_cons,List.length_nil];omega)) only [go_sem,hlt',e5]
  refine had.mono ?_
  rintro w σ17 ⟨rfl,k',pg',T',hk',hT',hF,hp10⟩
  simp (disch:=first|assumption|omega|(simp only [List.length_append,List.length_cons,List.length_nil];omega)) only [go_sem]
  obtain ⟨r1,r2,r3⟩:=fin hF
  rw [hK]
  exact retC_by (.refl _) (.refl _) ⟨rfl,base3,q1,q2,k',pg',T',_,hm3,by rw [if_neg hlt],by omega,r1,r2,r3,hT',(hp10.drop1 (by rw [ASt.set_ne (Ne.symm hab2)];exact hnb3) (hck3.away (ck_ne hck3 hna3))).drop1 hna3 hck3⟩
end
end Go.A
namespace Go.A
open Go.Proofs
/-! 75: (*tabular/seq.Seq).shrink -/
def c75_49:ACode := .seq (.seq (.ops [ oq 21 (.mv (.t 1)),oq 22 (.mv (.t 0)),oq 23 (.nc (.t 22)),oq 24 (.fa 1 (.t 23)),oq 25 (.ld none (.t 24)),oq 26 (.bin .eql (.t 21) (.t 25))]) (.cond (.t 26) (.seq (.ops [ oq 27 (.mv (.t 0)),oq 28 (.mv (.t 2)),oe 29 (.call 98 [(.t 27),(.t 28)]),oq 6 (.mv (.t 29))]) .ret) .skip)) (.seq (.seq (.ops [ oq 30 (.mv (.t 2)),oe 31 (.call 54 [(.t 30)]),oq 32 (.mv (.t 2)),oe 33 (.call 65 [(.t 32)]),oq 34 (.bin .quo (.t 33) (.v (.int .i64 2))),oq 35 (.bin .geq (.t 31) (.t 34))]) (.cond (.t 35) (.seq (.ops [ oq 36 (.mv (.t 0)),oq 37 (.mv (.t 1)),oq 38 (.mv (.t 2)),oe 39 (.call 67 [(.t 36),(.t 37),(.t 38)]),oq 6 (.mv (.t 39))]) .ret) .skip)) (.seq (.ops [ oq 41 (.mv (.t 0)),oq 42 (.mv (.t 2)),oq 43 (.nc (.t 42)),oq 44 (.fa 1 (.t 43)),oq 45 (.ld none (.t 44)),oe 46 (.call 35 [(.t 41),(.t 45)]),oq 40 (.mv (.t 46)),oq 47 (.ext 0 (.t 40)),oq 48 (.ext 1 (.t 40)),oq 8 (.mv (.t 47)),oq 9 (.mv (.t 48))]) (.seq (.seq (.ops [ oq 49 (.mv (.t 9)),oq 50 (.bin .neq (.t 49) (.v (.int .i64 0)))]) (.cond (.t 50) (.seq (.ops [ oq 51 (.mv (.t 9)),oq 6 (.mv (.t 51))]) .ret) .skip)) (.seq (.ops [ oq 52 (.mv (.t 8)),oq 53 (.nc (.t 52)),oq 54 (.fa 3 (.t 53)),oq 55 (.ld none (.t 54)),oq 56 (.mv (.t 1)),oe 57 (.call 37 [(.t 55),(.t 56)]),oq 10 (.mv (.t 57))]) (.seq (.seq (.ops [ oq 58 (.mv (.t 10)),oq 59 (.bin .lss (.t 58) (.v (.int .i64 0))),oq 60 (.mv (.t 59)),⟨some 61,some (60,false),.q (.mv (.t 8)),[]⟩,⟨some 62,some (60,false),.q (.nc (.t 61)),[]⟩,⟨some 63,some (60,false),.q (.fa 3 (.t 62)),[]⟩,⟨some 64,some (60,false),.q (.ld none (.t 63)),[]⟩,⟨some 65,some (60,false),.q (.len (.t 64)),[]⟩,⟨some 66,some (60,false),.q (.bin .lss (.t 65) (.v (.int .i64 2))),[]⟩,oq 67 (.pick (.t 60) (.v (.bool true)) (.t 66))]) (.cond (.t 67) (.seq (.ops [ oq 6 (.mv (.v (.int .i64 3)))]) .ret) .skip)) (.seq (.ops [ oq 68 (.mv (.t 8)),oq 69 (.nc (.t 68)),oq 70 (.fa 4 (.t 69)),oq 71 (.ld none (.t 70)),oq 72 (.mv (.t 10)),oq 73 (.mv (.t 2)),⟨some 74,none,.e (.call 71 [(.t 73)]),[⟨none,.ld none (.t 70),71⟩]⟩,oq 75 (.ia 1 (.t 71) (.t 72)),oz (.store 1 (.t 75) (.t 74))]) (.seq (.seq (.ops [ oq 76 (.mv (.t 0)),oq 77 (.mv (.t 2)),oq 78 (.nc (.t 77)),oq 79 (.fa 1 (.t 78)),oq 80 (.ld none (.t 79)),oq 81 (.mv (.t 8)),oq 82 (.mv (.t 10)),oq 83 (.mv (.t 8)),oq 84 (.nc (.t 83)),oq 85 (.fa 3 (.t 84)),oq 86 (.ld none (.t 85)),oq 87 (.len (.t 86)),oq 88 (.bin .sub (.t 87) (.v (.int .i64 2))),oq 89 (.mnx false (.t 82) (.t 88)),oe 90 (.call 99 [(.t 76),(.t 80),(.t 81),(.t 89)]),oq 11 (.mv (.t 90))]) (.seq (.ops [ oq 91 (.mv (.t 11)),oq 92 (.bin .neq (.t 91) (.v (.int .i64 0)))]) (.cond (.t 92) (.seq (.ops [ oq 93 (.mv (.t 11)),oq 6 (.mv (.t 93))]) .ret) .skip))) (.ops [ oq 94 (.mv (.t 2)),oq 95 (.nc (.t 94)),oq 96 (.fa 1 (.t 95)),oq 97 (.ld none (.t 96)),oq 98 (.mv (.t 8)),oq 1 (.mv (.t 97)),oq 2 (.mv (.t 98))]))))))))
def c75_55:ACode := .seq (.ops [ oq 13 (.bin .lss (.t 12) (.v (.int .i64 20)))]) (.seq (.cond (.t 13) .skip (.exit 0)) (.seq (.block 1 (.seq (.seq (.ops [ oq 14 (.mv (.t 0)),oq 15 (.mv (.t 1)),oq 16 (.mv (.t 2)),oe 17 (.call 66 [(.t 14),(.t 15),(.t 16)]),oq 7 (.mv (.t 17))]) (.seq (.ops [ oq 18 (.mv (.t 7)),oq 19 (.bin .neq (.t 18) (.v (.int .i64 0)))]) (.cond (.t 19) (.seq (.ops [ oq 20 (.mv (.t 7)),oq 6 (.mv (.t 20))]) .ret) .skip))) c75_49)) (.ops [ oq 99 (.bin .add (.t 12) (.v (.int .i64 1))),oq 12 (.mv (.t 99))])))
def c75_62:ACode := .seq (.ops [ oq 6 (.mv (.v (.int .i64 0)))]) (.seq (.seq (.ops [ oq 12 (.mv (.v (.int .i64 0)))]) (.block 0 (.loop c75_55))) (.seq (.ops [ oq 6 (.mv (.v (.int .i64 3)))]) .ret))
@[go_sem] def c75_49_wp:=wp_of c75_49.eq_1
@[go_sem] def c75_55_wp:=wp_of c75_55.eq_1
@[go_sem] def c75_62_wp:=wp_of c75_62.eq_1
def c75:AFn:=⟨100,[.t 6],c75_62⟩
theorem c75_ok:compF Tryz.prog Tryz.f75=some c75:=by kernel_rfl
theorem a75 {args:List AV} {σ:ASt} {R:AV->ASt->Prop} (hl:args.length<=100) (h:c75_62.wp Tryz.prog (RetQ [.t 6] R) (init args) σ):ACalls Tryz.prog 75 args σ R:=acalls_of Tryz.func75 c75_ok hl h
/-! 98: (*tabular/seq.Seq).lower -/
def c98_37:ACode := .seq (.ops [ oq 4 (.mv (.v (.int .i64 0)))]) (.seq (.seq (.ops [ oq 10 (.mv (.t 1)),oq 11 (.nc (.t 10)),oq 12 (.fa 0 (.t 11)),oq 13 (.ld none (.t 12)),oq 14 (.mv (.t 13)),⟨some 15,some (14,false),.q (.mv (.t 1)),[]⟩,⟨some 16,some (14,false),.q (.nc (.t 15)),[]⟩,⟨some 17,some (14,false),.q (.fa 3 (.t 16)),[]⟩,⟨some 18,some (14,false),.q (.ld none (.t 17)),[]⟩,⟨some 19,some (14,false),.q (.len (.t 18)),[]⟩,⟨some 20,some (14,false),.q (.bin .gtr (.t 19) (.v (.int .i64 1))),[]⟩,oq 21 (.pick (.t 14) (.v (.bool true)) (.t 20))]) (.cond (.t 21) (.seq (.ops [ oq 4 (.mv (.v (.int .i64 0)))]) .ret) .skip)) (.seq (.ops [ oq 22 (.mv (.t 1)),oq 23 (.nc (.t 22)),oq 24 (.fa 3 (.t 23)),oq 25 (.ld none (.t 24)),oq 26 (.ia 1 (.t 25) (.v (.int .i64 0))),oq 27 (.ld none (.t 26)),oq 5 (.mv (.t 27))]) (.seq (.ops [ oq 29 (.mv (.t 0)),oq 30 (.mv (.t 5)),oe 31 (.call 35 [(.t 29),(.t 30)]),oq 28 (.mv (.t 31)),oq 32 (.ext 0 (.t 28)),oq 33 (.ext 1 (.t 28)),oq 6 (.mv (.t 32)),oq 7 (.mv (.t 33))]) (.seq (.seq (.ops [ oq 34 (.mv (.t 7)),oq 35 (.bin .neq (.t 34) (.v (.int .i64 0)))]) (.cond (.t 35) (.seq (.ops [ oq 36 (.mv (.t 7)),oq 4 (.mv (.t 36))]) .ret) .skip)) (.seq (.ops [ oq 37 (.mv (.t 6)),oq 38 (.nc (.t 37)),oq 39 (.fa 1 (.t 38)),oz (.store 1 (.t 39) (.v (.int .i64 0)))]) (.seq (.seq (.ops [ oq 40 (.mv (.t 0)),oq 41 (.mv (.t 0)),oq 42 (.nc (.t 41)),oq 43 (.fa 1 (.t 42)),oq 44 (.ld none (.t 43)),oq 45 (.mv (.t 6)),oe 46 (.call 66 [(.t 40),(.t 44),(.t 45)]),oq 8 (.mv (.t 46))]) (.seq (.ops [ oq 47 (.mv (.t 8)),oq 48 (.bin .neq (.t 47) (.v (.int .i64 0)))]) (.cond (.t 48) (.seq (.ops [ oq 49 (.mv (.t 8)),oq 4 (.mv (.t 49))]) .ret) .skip))) (.seq (.seq (.ops [ oq 50 (.mv (.t 0)),oq 51 (.mv (.t 0)),oq 52 (.nc (.t 51)),oq 53 (.fa 1 (.t 52)),oq 54 (.ld none (.t 53)),oq 55 (.mv (.t 6)),oq 56 (.mv (.t 6)),⟨some 57,none,.e (.call 54 [(.t 56)]),[⟨none,.ld none (.t 53),54⟩]⟩,oe 58 (.call 94 [(.t 50),(.t 54),(.t 55),(.v (.int .i64 0)),(.t 57)]),oq 9 (.mv (.t 58))]) (.seq (.ops [ oq 59 (.mv (.t 9)),oq 60 (.bin .neq (.t 59) (.v (.int .i64 0)))]) (.cond (.t 60) (.seq (.ops [ oq 61 (.mv (.t 9)),oq 4 (.mv (.t 61))]) .ret) .skip))) (.seq (.ops [ oq 62 (.mv (.t 0)),oq 63 (.nc (.t 62)),oq 64 (.fa 0 (.t 63)),oq 65 (.ld none (.t 64)),oq 66 (.mv (.t 5)),oe 67 (.call 114 [(.t 65),(.t 66)]),oq 4 (.mv (.t 67))]) .ret))))))))
@[go_sem] def c98_37_wp:=wp_of c98_37.eq_1
def c98:AFn:=⟨68,[.t 4],c98_37⟩
theorem c98_ok:compF Tryz.prog Tryz.f98=some c98:=by kernel_rfl
theorem a98 {args:List AV} {σ:ASt} {R:AV->ASt->Prop} (hl:args.length<=68) (h:c98_37.wp Tryz.prog (RetQ [.t 4] R) (init args) σ):ACalls Tryz.prog 98 args σ R:=acalls_of Tryz.func98 c98_ok hl h
end Go.A
namespace Go.A
open Go.Proofs
section
variable {base base1 σ σ':ASt} {p k page t root troot n s up:Nat} {m:Int} {pg:Pgs} {ids ds cs A B:List Nat} {r:Role} {T:Nat->Prop} {M:Nat->Option Nat}
theorem sqlower_ok (hn:σ n=some r) (hr:SNodeR r (.inner up ds cs)) (h2:2<=ds.length):ACalls Tryz.prog 98 [.ptr s 0,.ptr n 0] σ fun w σ'=>w = .int .i64 0/\σ'=σ:=by
 obtain ⟨k1,k2,k3,rfl⟩:=hr
 have hkl:=kv_len .i64 ds
 have h':(1:Int)<(ds.length:Int):=by omega
 generalize kv .i64 ds=DS at *
 refine a98 (by simp) ?_
 simp (disch:=first|assumption|omega|(simp only [List.length_append,List.length_cons,List.length_nil];omega)) only [go_sem,hn,hkl,h']
 exact retC_by (.refl _) (.refl _) ⟨rfl,rfl⟩
set_option maxHeartbeats 1000000 in
theorem sqshrink_stay (hp:PoolAt (base.set n (some r)) σ p m k pg) (hck:CkT base) (hnew:base n=none) (hs:base s=some (.obj [.ptr p 0,.int .i64 root,.ptr t 0])) (hr:SNodeR r (.leaf up ids)) (h24:24<=ids.length) (h48:ids.length<=48) (hpr:page≠root) (huu:up<60000) (hiu:u64L ids) {b0:List UInt8} (hq:pg page=some b0) {Q:Pgs->Prop}
  (htell:∀ σ' b',SLeaf b' up ids->PoolAt (base.set n (some r)) σ' p m k (pset pg page (some b'))->ACalls Tryz.prog 67 [.ptr s 0,.int .i64 page,.ptr n 0] σ' fun w σ2=>w = .int .i64 0/\∃ pg',Q pg'/\PoolAt (base.set n (some r)) σ2 p m k pg') :
  ACalls Tryz.prog 75 [.ptr s 0,.int .i64 page,.ptr n 0] σ fun w σ'=>w = .int .i64 0/\∃ pg',Q pg'/\PoolAt base σ' p m k pg':=by
 have hsn:s≠n:=fun e=>by rw [e,hnew] at hs;cases hs
 have hs2:=(ASt.set_ne (σ:=base) (r:=some r) hsn).trans hs
 have hszz:(SN.leaf up ids).size=ids.length:=rfl
 have hle:(24:Int)<=(ids.length:Int):=by omega
 have hpr':¬ (page:Int)=(root:Int):=by omega
 have wd:IntKind.wrap .i64 ((48:Int).tdiv 2)=24:=rfl
 refine a75 (by simp) ?_
 simp (disch:=first|assumption|omega|(simp only [List.length_append,List.length_cons,List.length_nil];omega)) only [go_sem]
 refine wp_loop_on (fun (j:Nat) a1 s2=>(a1 0 = .ptr s 0/\a1 1 = .int .i64 page/\a1 12 = .int .i64 0/\a1 2 = .ptr n 0)/\s2=σ) (fun i=>1-i) 0 ⟨?_,rfl⟩ ?_
 ·simp (disch:=first|assumption|omega|(simp only [List.length_append,List.length_cons,List.length_nil];omega)) only [go_sem]
 rintro j a1 s2 ⟨hf,rfl⟩
 simp (disch:=first|assumption|omega|(simp only [List.length_append,List.length_cons,List.length_nil];omega)) only [go_sem,hf]
 refine (sqstore_ok (nd := .leaf up ids) hp hs2 hq ⟨r,ASt.set_same _ _ _,hr⟩ ⟨h48,by omega,hiu⟩).mono ?_
 rintro w s5 ⟨rfl,b',hb',hp5⟩
 have hn:=hp5.at (ASt.set_same base n (some r))
 have hss:=hp5.at hs2
 have hsz:=sqsize_ok hn hr (by show ids.length<=1000;omega)
 rw [hszz] at hsz
 have hmo:ACalls Tryz.prog 65 [.ptr n 0] s5 fun v σ'=>v = .int .i64 48/\σ'=s5:=by
  obtain ⟨k1,rfl⟩:=hr
  exact sqmost_ok hn
 simp (disch:=first|assumption|omega|(simp only [List.length_append,List.length_cons,List.length_nil];omega)) only [go_sem,hf,hss,hpr']
 refine hsz.mono ?_
 rintro w s3 ⟨rfl,rfl⟩
 simp (disch:=first|assumption|omega|(simp only [List.length_append,List.length_cons,List.length_nil];omega)) only [go_sem,hf]
 refine hmo.mono ?_
 rintro w s4 ⟨rfl,rfl⟩
 simp (disch:=first|assumption|omega|(simp only [List.length_append,List.length_cons,List.length_nil];omega)) only [go_sem,hf,hle,wd]
 refine (htell _ _ hb' hp5).mono ?_
 rintro w s6 ⟨rfl,pg',hQ,hp6⟩
 simp (disch:=first|assumption|omega|(simp only [List.length_append,List.length_cons,List.length_nil];omega)) only [go_sem,hf]
 exact retC_by (.refl _) (.refl _) ⟨rfl,pg',hQ,hp6.drop1 hnew hck⟩
set_option maxHeartbeats 4000000 in
theorem sqshrink_even {a b ca cb i:Nat} {br b0:List UInt8} (hp:PoolAt (base.set n (some r)) σ p m k pg) (hck:CkT base) (hnew:base n=none) (hs:base s=some (.obj [.ptr p 0,.int .i64 root,.ptr t 0])) (ht:base t=some (.obj [.ptr p 0,.int .i64 troot])) (hr:SNodeR r (.leaf root ids)) (h24:ids.length<24) (hpr:page≠root) (hiu:u64L ids)
  (hrt:pg root=some br) (hrl:SInner br 0 [a,b] [ca,cb]) (hi:i=0/\page=a\/i=1/\page=b) (hab:a≠b) (har:a≠root) (hbr:b≠root) (hq:pg page=some b0)
  (hAB:∀ b',SLeaf b' root ids->∃ b1 b2,(pset pg page (some b')) a=some b1/\SLeaf b1 root A/\(pset pg page (some b')) b=some b2/\SLeaf b2 root B) (hA:A ≠ []) (hB:B ≠ []) (h48:48<A.length+B.length) {h:Nat} (hh:h=(A.length+B.length) / 2)
  (h60:∀ k v,M k=some v->k<60) (hi60:∀ x∈A++B,x<60) (hT:TrAt pg troot T M) (hTa:¬ T a) (hTb:¬ T b) (hTr:¬ T root) (hroom:(k:Int)+(2*(h-A.length)+2*(A.length-h):Nat)<=m) :
  ACalls Tryz.prog 75 [.ptr s 0,.int .i64 page,.ptr n 0] σ fun w σ'=>w = .int .i64 0/\∃ (b1 b2 b3:List UInt8) (k':Nat) (pg':Pgs) (T':Nat->Prop) (M':Nat->Option Nat),(M'=if A.length<h then adL M ((A++B).take h |>.drop A.length) a else adL M (((A++B).drop h).take (A.length-h)) b)/\k'<=k+(2*(h-A.length)+2*(A.length-h)) ∧
   (pg' a=some b1/\SLeaf b1 root ((A++B).take h)/\¬ T' a)/\(pg' b=some b2/\SLeaf b2 root ((A++B).drop h)/\¬ T' b)/\(pg' root=some b3/\SInner b3 0 [a,b] [h,(A++B).length-h]/\¬ T' root)/\TrAt pg' troot T' M'/\PoolAt base σ' p m k' pg':=by
 have hsn:s≠n:=fun e=>by rw [e,hnew] at hs;cases hs
 have htn:t≠n:=fun e=>by rw [e,hnew] at ht;cases ht
 have hs2:=(ASt.set_ne (σ:=base) (r:=some r) hsn).trans hs
 have ht2:=(ASt.set_ne (σ:=base) (r:=some r) htn).trans ht
 have hbn:(base.set n (some r)) n=some r:=ASt.set_same _ _ _
 have hckn:CkT (base.set n (some r)):=hck.away (ck_ne hck hnew)
 obtain ⟨K,hK⟩:∃ K:AV->ASt->Prop,K=fun w σ'=>w = .int .i64 0/\∃ (b1 b2 b3:List UInt8) (k':Nat) (pg':Pgs) (T':Nat->Prop) (M':Nat->Option Nat),(M'=if A.length<h then adL M ((A++B).take h |>.drop A.length) a else adL M (((A++B).drop h).take (A.length-h)) b)/\k'<=k+(2*(h-A.length)+2*(A.length-h)) ∧
   (pg' a=some b1/\SLeaf b1 root ((A++B).take h)/\¬ T' a)/\(pg' b=some b2/\SLeaf b2 root ((A++B).drop h)/\¬ T' b)/\(pg' root=some b3/\SInner b3 0 [a,b] [h,(A++B).length-h]/\¬ T' root)/\TrAt pg' troot T' M'/\PoolAt (base.set n (some r)) σ' p m k' pg':=⟨_,rfl⟩
 suffices hS:ACalls Tryz.prog 75 [.ptr s 0,.int .i64 page,.ptr n 0] σ K by
  refine hS.mono ?_
  intro w σ' hw
  rw [hK] at hw
  obtain ⟨rfl,b1,b2,b3,k',pg',T',M',q1,q2,q3,q4,q5,q6,q7⟩:=hw
  exact ⟨rfl,b1,b2,b3,k',pg',T',M',q1,q2,q3,q4,q5,q6,q7.drop1 hnew hck⟩
 generalize base.set n (some r)=bN at *
 have hup0:=(hp.rng hrt)
 have hszz:(SN.leaf root ids).size=ids.length:=rfl
 have hle:¬ (24:Int)<=(ids.length:Int):=by omega
 have hpr':¬ (page:Int)=(root:Int):=by omega
 have wd:IntKind.wrap .i64 ((48:Int).tdiv 2)=24:=rfl
 refine a75 (by simp) ?_
 simp (disch:=first|assumption|omega|(simp only [List.length_append,List.length_cons,List.length_nil];omega)) only [go_sem]
 obtain ⟨J,hJ⟩:∃ J:Nat->AFr->ASt->Prop,J=fun j a1 s2=>(a1 0 = .ptr s 0/\a1 12 = .int .i64 j)/\(j=0/\(a1 1 = .int .i64 page/\a1 2 = .ptr n 0)/\s2=σ\/j=1/\∃ nv y Z cZ pgx,(a1 1 = .int .i64 root/\a1 2 = .ptr nv 0)/\bN nv=none/\pgx root=pg root/\EvenK bN p m k pgx troot root T nv a b y (A++B) h (2*(h-A.length)+2*(A.length-h)) Z cZ (fun M'=>M'=if A.length<h then adL M ((A++B).take h |>.drop A.length) a else adL M (((A++B).drop h).take (A.length-h)) b) (.int .i64 0) s2):=⟨_,rfl⟩
 refine wp_loop_on J (fun i=>2-i) 0 ?_ ?_
 ·rw [hJ]
  refine ⟨?_,.inl ⟨rfl,?_,rfl⟩⟩
  ·simp (disch:=first|assumption|omega|(simp only [List.length_append,List.length_cons,List.length_nil];omega)) only [go_sem]
  ·simp (disch:=first|assumption|omega|(simp only [List.length_append,List.length_cons,List.length_nil];omega)) only [go_sem]
 intro j a1 s2 hj
 rw [hJ] at hj
 obtain ⟨hf,hc⟩:=hj
 rcases hc with ⟨rfl,hf2,rfl⟩|⟨rfl,nv,y,Z,cZ,pgx,hf2,hnv,hpx,hE⟩
 ·have l0:((0:Nat):Int)<20:=by decide
  simp (disch:=first|assumption|omega|(simp only [List.length_append,List.length_cons,List.length_nil];omega)) only [go_sem,hf,hf2,l0]
  refine (sqstore_ok (nd := .leaf root ids) hp hs2 hq ⟨r,hbn,hr⟩ ⟨by omega,by omega,hiu⟩).mono ?_
  rintro w s5 ⟨rfl,b',hb',hp5⟩
  have hn:=hp5.at hbn
  have hss:=hp5.at hs2
  have hsz:=sqsize_ok hn hr (by show ids.length<=1000;omega)
  rw [hszz] at hsz
  have hmo:ACalls Tryz.prog 65 [.ptr n 0] s5 fun v σ'=>v = .int .i64 48/\σ'=s5:=by
   obtain ⟨k1,rfl⟩:=hr
   exact sqmost_ok hn
  simp (disch:=first|assumption|omega|(simp only [List.length_append,List.length_cons,List.length_nil];omega)) only [go_sem,hf,hf2,hss,hpr']
  refine hsz.mono ?_
  rintro w s3 ⟨rfl,rfl⟩
  simp (disch:=first|assumption|omega|(simp only [List.length_append,List.length_cons,List.length_nil];omega)) only [go_sem,hf,hf2]
  refine hmo.mono ?_
  rintro w s4 ⟨rfl,rfl⟩
  have hn':=hn
  obtain ⟨k1,rfl⟩:=id hr
  simp (disch:=first|assumption|omega|(simp only [List.length_append,List.length_cons,List.length_nil];omega)) only [go_sem,hf,hf2,hle,wd,hn']
  refine (sqload_innerM hp5 hs2 (by rw [pset_ne (Ne.symm hpr)];exact hrt) hrl).mono ?_
  rintro w s6 ⟨nv,y,z,base1,rfl,hm,hO,hp6⟩
  have hil:i<2:=by omega
  have hidsl:ids.length<24:=h24
  have hdi : [a,b][i]? = some page:=by
   rcases hi with ⟨rfl,rfl⟩|⟨rfl,rfl⟩<;>rfl
  have hdn:∀ j,j<i → [a,b][j]? ≠ some page:=by
   rcases hi with ⟨rfl,rfl⟩|⟨rfl,rfl⟩
   ·intro j hj;omega
   ·intro j hj
    obtain rfl:j=0:=by omega
    intro e;injection e with e;exact hab e
  obtain ⟨u,w',hset⟩:∃ u w',[ca,cb].set i ids.length = [u,w']:=by
   rcases hi with ⟨rfl,_⟩|⟨rfl,_⟩
   ·exact ⟨_,_,rfl⟩
   ·exact ⟨_,_,rfl⟩
  have hidx:=(hm.hy.mono (σ':=s6) fun X r _ hX=>hp6.at hX).idxI (by show 2<=1000;omega) hdi hdn
  have hv:=hp6.at hm.hn
  have hcy:=hm.hy.cell
  have hcz:=hm.hz.cell
  have hly:lenC y=some (.int .i64 2):=hm.hy.len
  have hi0:¬ (i:Int)<0:=by omega
  have hn6:=hp6.at (hm.kept _ _ hbn)
  have hcnt:=sqcount_leaf (n:=n) (σ:=s6) hn6 hr
  simp (disch:=first|assumption|omega|(simp only [List.length_append,List.length_cons,List.length_nil];omega)) only [go_sem,hf,hf2,hv,hcy,hcz,hly]
  refine hidx.mono ?_
  rintro w s7 ⟨rfl,rfl⟩
  obtain ⟨Z,cZ,R,rfl,hZ1,hZ2,hZ3⟩:=hm.hz.resolve_left fun q=>by cases q.2
  have hlen2 : [ca,cb].length=2:=rfl
  have hZ:=hp6.at hZ1
  have hst:i+1<=(kv .i64 [ca,cb]).length+R.length:=by rw [kv_len,hlen2];omega
  have hil':(i:Int)<2:=by omega
  have hmin:min (i:Int) 0=0:=by omega
  have hnZ:n≠Z:=fun e=>by rw [<-e,hbn] at hZ2;cases hZ2
  have hnvZ:nv≠Z:=fun e=>hm.nz (by rw [e];rfl)
  have hlen2':((2:Nat):Int)=2:=rfl
  have hm2:=hm.put (i:=i) (v:=ids.length) hZ1 hZ3
  have hp7:=hp6.set (x:=Z) (some (.obj (kv .i64 ([ca,cb].set i ids.length)++R))) (.inl (by rw [hZ1];simp)) (ck_ne hckn hZ2)
  have hput:=kv_put (kk := .i64) (l := [ca,cb]) (R:=R) (i:=i) (v:=ids.length) (by rw [hlen2];exact hil)
  rw [hlen2] at hm hm2 hv
  generalize hCC:kv .i64 [ca,cb]=CC at *
  generalize hDD:kv .i64 ([ca,cb].set i ids.length)++R=DD at *
  simp (disch:=first|assumption|omega|(simp only [List.length_append,List.length_cons,List.length_nil];omega)) only [go_sem,hf,hf2,hv,hcy,hly,hi0]
  refine hcnt.mono ?_
  rintro w s8 ⟨rfl,rfl⟩
  simp (disch:=first|assumption|omega|(simp only [List.length_append,List.length_cons,List.length_nil];omega)) only [go_sem,hf,hf2,hv,hn6,hZ,hcy,hly,hil',hlen2,hlen2',hst,hput,hmin,hnZ,hnvZ,Int.toNat_natCast,Nat.zero_add]
  rw [hset] at hm2
  obtain ⟨b1,b2,q1,q2,q3,q4⟩:=hAB b' hb'
  have hTp:¬ T page:=by
   rcases hi with ⟨_,rfl⟩|⟨_,rfl⟩
   ·exact hTa
   ·exact hTb
  have hT5:TrAt (pset pg page (some b')) troot T M:=hT.frame fun x hx=>pset_ne fun (e:x=page)=>hTp (e▸hx)
  refine (sqeven_ok hm2 hp7 hckn hs2 ht2 hab q1 q3 q2 q4 hA hB h48 hh h60 hi60 hT5 hTa hTb hroom).mono ?_
  intro w s9 hE
  obtain ⟨rfl,base3,x1,x2,x3,x4,x5,x6,hm3,hrest⟩:=id hE
  have hn9:=hrest.2.2.2.2.2.2.at (hm3.kept _ _ hbn)
  simp (disch:=first|assumption|omega|(simp only [List.length_append,List.length_cons,List.length_nil];omega)) only [go_sem,hf,hf2,hn9]
  refine ⟨1,by omega,?_⟩
  rw [hJ]
  refine ⟨?_,.inr ⟨rfl,nv,y,Z,cZ,pset pg page (some b'),?_,hm.new,pset_ne (Ne.symm hpr),hE⟩⟩
  ·simp (disch:=first|assumption|omega|(simp only [List.length_append,List.length_cons,List.length_nil];omega)) only [go_sem,hf]
  ·simp (disch:=first|assumption|omega|(simp only [List.length_append,List.length_cons,List.length_nil];omega)) only [go_sem]
 ·have l0:((1:Nat):Int)<20:=by decide
  obtain ⟨_,base3,b1,b2,k',pg',T',M',hm3,hMM,hk',⟨qa1,qa2,qa3⟩,⟨qb1,qb2,qb3⟩,qx,hT',hp3⟩:=hE
  obtain ⟨τ,r3,gd,g2,g3,g4⟩:=hm3.soft hckn hp3
  obtain ⟨f1,f2⟩:=qx root (Ne.symm har) (Ne.symm hbr) hTr (by rw [hpx,hrt];simp)
  have hsv:s≠nv:=fun e=>by rw [e,hnv] at hs2;cases hs2
  have lA:=qa2.most
  have lB:=qb2.most
  have hLl:(A++B).length=A.length+B.length:=List.length_append
  rw [List.length_take] at lA
  rw [List.length_drop] at lB
  have ra:=(hp3.rng qa1).2
  have rb:=(hp3.rng qb1).2
  have hok:(SN.inner 0 [a,b] [h,(A++B).length-h]).ok:=by
   refine ⟨rfl,by simp only [List.length_cons,List.length_nil];omega,by omega,fun x hx=>?_,fun x hx=>?_⟩
   ·simp only [List.mem_cons,List.not_mem_nil,or_false] at hx
    rcases hx with rfl|rfl<;>omega
   ·simp only [List.mem_cons,List.not_mem_nil,or_false] at hx
    rcases hx with rfl|rfl<;>omega
  simp (disch:=first|assumption|omega|(simp only [List.length_append,List.length_cons,List.length_nil];omega)) only [go_sem,hf,hf2,l0]
  refine ((sqstore_ok (nd := .inner 0 [a,b] [h,(A++B).length-h]) g4 ((ASt.set_ne hsv).trans hs2) (by rw [f2,hpx];exact hrt) ⟨r3,ASt.set_same _ _ _,g2⟩ hok).wk gd.wk).mono ?_
  rintro w s10 ⟨rfl,b3,hb3,hp10⟩
  have hss10:=hp10.at ((ASt.set_ne hsv).trans hs2)
  have hlow:=sqlower_ok (s:=s) (hp10.at (ASt.set_same _ _ _)) g2 (Nat.le_refl 2)
  simp (disch:=first|assumption|omega|(simp only [List.length_append,List.length_cons,List.length_nil];omega)) only [go_sem,hf,hf2,hss10]
  refine hlow.mono ?_
  rintro w s11 ⟨rfl,rfl⟩
  simp (disch:=first|assumption|omega|(simp only [List.length_append,List.length_cons,List.length_nil];omega)) only [go_sem,hf]
  rw [hK]
  exact retC_by (.refl _) (.refl _) ⟨rfl,b1,b2,b3,k',_,T',M',hMM,hk',⟨by rw [pset_ne har];exact qa1,qa2,qa3⟩,⟨by rw [pset_ne hbr];exact qb1,qb2,qb3⟩,⟨pset_same _ _ _,hb3,f1⟩,hT'.frame fun x hx=>pset_ne fun (e:x=root)=>f1 (e▸hx),hp10.drop1 hnv hckn⟩
end
end Go.A
namespace Go.A
open Go.Proofs
/-! 34: (*tabular/seq.Seq).Drop -/
def c34_35:ACode := .seq (.ops [ oq 4 (.mv (.v (.int .u64 0))),oq 5 (.mv (.v (.int .i64 0)))]) (.seq (.seq (.ops [ oq 13 (.mv (.t 1)),oq 14 (.bin .lss (.t 13) (.v (.int .i64 0)))]) (.cond (.t 14) (.seq (.ops [ oq 4 (.mv (.v (.int .u64 0))),oq 5 (.mv (.v (.int .i64 1)))]) .ret) .skip)) (.seq (.ops [ oq 16 (.mv (.t 0)),oq 17 (.mv (.t 1)),oe 18 (.call 29 [(.t 16),(.t 17)]),oq 15 (.mv (.t 18)),oq 19 (.ext 0 (.t 15)),oq 20 (.ext 1 (.t 15)),oq 21 (.ext 2 (.t 15)),oq 22 (.ext 3 (.t 15)),oq 6 (.mv (.t 19)),oq 7 (.mv (.t 20)),oq 8 (.mv (.t 21)),oq 9 (.mv (.t 22))]) (.seq (.seq (.ops [ oq 23 (.mv (.t 9)),oq 24 (.bin .neq (.t 23) (.v (.int .i64 0)))]) (.cond (.t 24) (.seq (.ops [ oq 25 (.mv (.t 9)),oq 4 (.mv (.v (.int .u64 0))),oq 5 (.mv (.t 25))]) .ret) .skip)) (.seq (.seq (.ops [ oq 26 (.mv (.t 8)),oq 27 (.mv (.t 6)),oq 28 (.nc (.t 27)),oq 29 (.fa 2 (.t 28)),oq 30 (.ld none (.t 29)),oq 31 (.len (.t 30)),oq 32 (.bin .geq (.t 26) (.t 31))]) (.cond (.t 32) (.seq (.ops [ oq 4 (.mv (.v (.int .u64 0))),oq 5 (.mv (.v (.int .i64 1)))]) .ret) .skip)) (.seq (.ops [ oq 33 (.mv (.t 6)),oq 34 (.nc (.t 33)),oq 35 (.fa 2 (.t 34)),oq 36 (.ld none (.t 35)),oq 37 (.mv (.t 8)),oq 38 (.ia 1 (.t 36) (.t 37)),oq 39 (.ld none (.t 38)),oq 10 (.mv (.t 39))]) (.seq (.ops [ oq 40 (.mv (.t 6)),oq 41 (.mv (.t 6)),oq 42 (.nc (.t 41)),oq 43 (.fa 2 (.t 42)),oq 44 (.ld none (.t 43)),oq 45 (.mv (.t 8)),oq 46 (.mv (.t 8)),oq 47 (.bin .add (.t 46) (.v (.int .i64 1))),oe 48 (.call 73 [(.t 44),(.t 45),(.t 47)]),oq 49 (.nc (.t 40)),oq 50 (.fa 2 (.t 49)),oz (.store 1 (.t 50) (.t 48))]) (.seq (.seq (.ops [ oq 52 (.mv (.t 0)),oq 53 (.nc (.t 52)),oq 54 (.fa 2 (.t 53)),oq 55 (.ld none (.t 54)),oq 56 (.mv (.t 10)),oe 57 (.call 74 [(.t 55),(.t 56)]),oq 51 (.mv (.t 57)),oq 58 (.ext 0 (.t 51)),oq 59 (.ext 1 (.t 51)),oq 11 (.mv (.t 58)),oq 12 (.mv (.t 59))]) (.seq (.ops [ oq 60 (.mv (.t 12)),oq 61 (.bin .neq (.t 60) (.v (.int .i64 0)))]) (.cond (.t 61) (.seq (.ops [ oq 62 (.mv (.t 12)),oq 4 (.mv (.v (.int .u64 0))),oq 5 (.mv (.t 62))]) .ret) .skip))) (.seq (.ops [ oq 63 (.mv (.t 10)),oq 64 (.mv (.t 0)),oq 65 (.mv (.t 7)),oq 66 (.mv (.t 6)),oe 67 (.call 75 [(.t 64),(.t 65),(.t 66)]),oq 4 (.mv (.t 63)),oq 5 (.mv (.t 67))]) .ret))))))))
@[go_sem] def c34_35_wp:=wp_of c34_35.eq_1
def c34:AFn:=⟨68,[.t 4,.t 5],c34_35⟩
theorem c34_ok:compF Tryz.prog Tryz.f34=some c34:=by kernel_rfl
theorem a34 {args:List AV} {σ:ASt} {R:AV->ASt->Prop} (hl:args.length<=68) (h:c34_35.wp Tryz.prog (RetQ [.t 4,.t 5] R) (init args) σ):ACalls Tryz.prog 34 args σ R:=acalls_of Tryz.func34 c34_ok hl h
end Go.A
namespace Go.A
open Go.Proofs
section
variable {base base' σ σ':ASt} {p k page t root troot n s up:Nat} {m:Int} {pg:Pgs} {ids ds cs:List Nat} {r:Role} {T:Nat->Prop} {M:Nat->Option Nat}
set_option maxHeartbeats 1000000 in
theorem sqdrop_of (h:PoolAt base σ p m k pg) (hs:base s=some (.obj [.ptr p 0,.int .i64 root,.ptr t 0])) (ht:base t=some (.obj [.ptr p 0,.int .i64 troot])) (hT:TrAt pg troot T M) {i q i' x v:Nat} (hx:ids[i']? = some x) (hM:M x=some v) (hl:ids.length<=48) (hbig:∀ l:List Nat,(∀ x,M x≠none->x∈l)->32<=l.length) {Q:ASt->Prop}
  (hdown:∀ σ,PoolAt base σ p m k pg->ACalls Tryz.prog 29 [.ptr s 0,.int .i64 i] σ (DownK base p m k pg up ids q i'))
  (hshrink:∀ n r σ pg' T',base n=none->SNodeR r (.leaf up (delL ids i'))->TrAt pg' troot T' (upM M x none)->Fr T pg T' pg'->PoolAt (base.set n (some r)) σ p m k pg'->ACalls Tryz.prog 75 [.ptr s 0,.int .i64 q,.ptr n 0] σ fun w σ'=>w = .int .i64 0/\Q σ') :
  ACalls Tryz.prog 34 [.ptr s 0,.int .i64 i] σ fun w σ'=>w = .tuple [.int .u64 x,.int .i64 0]/\Q σ':=by
 have hi0:¬ (i:Int)<0:=by omega
 have hil:=(List.getElem?_eq_some_iff.1 hx).1
 have hge:¬ (ids.length:Int)<=(i':Int):=by omega
 have hil':(i':Int)<(ids.length:Int):=by omega
 refine a34 (by simp) ?_
 simp (disch:=first|assumption|omega|(simp only [List.length_append,List.length_cons,List.length_nil];omega)) only [go_sem,hi0]
 refine (hdown σ h).mono ?_
 rintro w σ2 ⟨n,X0,base1,rfl,hm,hO,hp⟩
 have hn:=hp.at hm.hn
 have hcx:=hm.hx.cell
 have hlx:=hm.hx.len
 have own:=hm.hx.mono (σ':=σ2) fun X r _ hX=>hp.at hX
 have hi1:=own.del64 (i:=i') hil (by omega)
 obtain ⟨Y,cc,R,rfl,hY,hg⟩:=own.get hx
 simp (disch:=first|assumption|omega|(simp only [List.length_append,List.length_cons,List.length_nil];omega)) only [go_sem,hn,hcx,hlx,hge,hY,hg,hil',Int.toNat_natCast,Nat.zero_add]
 refine hi1.mono ?_
 rintro w σ3 ⟨rfl,rfl⟩
 have hn3:lessB σ2 (.msl Y 0 ids.length cc) n=some (.obj [.bool true,.int .i64 up,.msl Y 0 ids.length cc,.sl .full [],.sl .full []]):=(lessB_eq hm.nx).trans hn
 have hxn:=node_hard (ky := .u64) (ly := []) hO hm.new hm.hn hm.hx (OwnR.nil _ _ _) hm.nx (by intro h;cases h) (fun X _ h=>by cases h) h.ck hp (.obj [.bool true,.int .i64 up,.sl .shr (kv .u64 (delL ids i')),.sl .full [],.sl .full []])
 have hlb:lessB (lessB σ2 (.msl Y 0 ids.length cc)) (.sl .full [])=lessB σ2 (.msl Y 0 ids.length cc):=rfl
 rw [hlb] at hxn
 have hr:SNodeR (.obj [.bool true,.int .i64 up,.sl .shr (kv .u64 (delL ids i')),.sl .full [],.sl .full []]) (.leaf up (delL ids i')):=⟨_,rfl⟩
 have hsn:s≠n:=fun e=>by rw [e,hm.new] at hs;cases hs
 have htn:t≠n:=fun e=>by rw [e,hm.new] at ht;cases ht
 have hs3:=hxn.at ((ASt.set_ne hsn).trans hs)
 rw [ASt.set_ne hsn] at hs3
 have hdrop:=trdrop_at hxn ((ASt.set_ne htn).trans ht) hT hbig hM
 generalize hKV:kv .u64 (delL ids i')=KV at *
 simp (disch:=first|assumption|omega|(simp only [List.length_append,List.length_cons,List.length_nil];omega)) only [go_sem,hn3,hcx,hs3,hsn]
 refine hdrop.mono ?_
 rintro w σ4 ⟨rfl,pg',⟨T',hT',hF⟩,hp4⟩
 simp (disch:=first|assumption|omega|(simp only [List.length_append,List.length_cons,List.length_nil];omega)) only [go_sem]
 refine (hshrink n _ σ4 pg' T' hm.new hr hT' hF hp4).mono ?_
 rintro w σ5 ⟨rfl,hQ⟩
 simp (disch:=first|assumption|omega|(simp only [List.length_append,List.length_cons,List.length_nil];omega)) only [go_sem]
 exact retC_by (.refl _) (.refl _) ⟨rfl,hQ⟩
end
end Go.A
namespace Go.A
open Go.Proofs
structure SqOne (pg:Pgs) (root troot:Nat) (T:Nat->Prop) (M:Nat->Option Nat) (A:List Nat):Prop where
 lf:∃ b,pg root=some b/\SLeaf b 0 A
 tr:TrAt pg troot T M
 tn:¬ T root
 mm:∀ x,M x=if x∈A then some root else none
 nd:A.Nodup
 lt:∀ x∈A,x<60
structure SqTwo (pg:Pgs) (root troot:Nat) (T:Nat->Prop) (M:Nat->Option Nat) (a b:Nat) (A B:List Nat):Prop where
 rt:∃ br,pg root=some br/\SInner br 0 [a,b] [A.length,B.length]
 la:∃ b1,pg a=some b1/\SLeaf b1 root A
 lb:∃ b2,pg b=some b2/\SLeaf b2 root B
 tr:TrAt pg troot T M
 tn:¬ T root/\¬ T a/\¬ T b
 ne:a≠b/\a≠root/\b≠root
 mm:∀ x,M x=if x∈A then some a else if x∈B then some b else none
 nd:(A++B).Nodup
 lt:∀ x∈A++B,x<60
 mi:24<=A.length/\24<=B.length
section
variable {base σ:ASt} {p k t root troot s a b:Nat} {m:Int} {pg pg':Pgs} {T T':Nat->Prop} {M:Nat->Option Nat} {A B:List Nat}
theorem u64_60 {l:List Nat} (h:∀ x∈l,x<60):u64L l:=fun x hx=>by have:=h x hx;omega
theorem SqTwo.m60 (h:SqTwo pg root troot T M a b A B):∀ k v,M k=some v->k<60:=fun x v hv=>by
 rw [h.mm] at hv
 split at hv
 ·rename_i e;exact h.lt x (List.mem_append_left _ e)
 ·split at hv
  ·rename_i e;exact h.lt x (List.mem_append_right _ e)
  ·cases hv
theorem insL_app_l {A B:List Nat} {i x:Nat} (h:i<=A.length):insL A i x++B=insL (A++B) i x:=by
 unfold insL
 rw [List.take_append_of_le_length h,List.drop_append_of_le_length h,List.append_assoc,List.cons_append]
theorem insL_app_r {A B:List Nat} {i x:Nat} (h:A.length<=i):A++insL B (i-A.length) x=insL (A++B) i x:=by
 unfold insL
 rw [List.take_append,List.drop_append,List.take_of_length_le h,List.drop_of_length_le h,List.append_assoc,List.nil_append]
theorem SqTwo.insA (h:SqTwo pg root troot T M a b A B) {i id:Nat} (hi:i<=A.length) (hid:id<60) (hno:id ∉ A++B) (hT:TrAt pg' troot T' (upM M id (some a))) (hF:Fr T pg T' pg') {b' b'':List UInt8} (hb':SLeaf b' root (insL A i id)) (hb'':SInner b'' 0 [a,b] [(insL A i id).length,B.length]) :
  SqTwo (pset (pset pg' a (some b')) root (some b'')) root troot T' (upM M id (some a)) a b (insL A i id) B:=by
 obtain ⟨br,r1,r2⟩:=h.rt
 obtain ⟨b1,a1,a2⟩:=h.la
 obtain ⟨b2,q1,q2⟩:=h.lb
 obtain ⟨t1,t2,t3⟩:=h.tn
 obtain ⟨n1,n2,n3⟩:=h.ne
 obtain ⟨f1,f2⟩:=hF root t1 (by rw [r1];simp)
 obtain ⟨f3,f4⟩:=hF a t2 (by rw [a1];simp)
 obtain ⟨f5,f6⟩:=hF b t3 (by rw [q1];simp)
 refine ⟨⟨b'',pset_same _ _ _,hb''⟩,⟨b',by rw [pset_ne n2,pset_same],hb'⟩,⟨b2,by rw [pset_ne n3,pset_ne (Ne.symm n1),f6];exact q1,q2⟩,hT.frame fun x hx=>by rw [pset_ne (fun (e:x=root)=>f1 (e▸hx)),pset_ne (fun (e:x=a)=>f3 (e▸hx))],⟨f1,f3,f5⟩,h.ne,fun x=>?_,?_,fun x hx=>?_,by rw [insL_len hi];have:=h.mi;omega⟩
 ·unfold upM
  rw [h.mm]
  by_cases e:x=id
  ·rw [if_pos e,if_pos (mem_ins.2 (.inl e))]
  ·rw [if_neg e]
   by_cases e2:x∈A
   ·rw [if_pos e2,if_pos (mem_ins.2 (.inr e2))]
   ·rw [if_neg e2,if_neg (fun q=>(mem_ins.1 q).elim e e2)]
 ·rw [insL_app_l hi]
  exact nodup_ins h.nd hno (by rw [List.length_append];omega)
 ·rw [insL_app_l hi] at hx
  exact (mem_ins.1 hx).elim (fun e=>by rw [e];exact hid) (h.lt x)
theorem SqTwo.insB (h:SqTwo pg root troot T M a b A B) {i id:Nat} (hi:A.length<=i) (hi2:i<=A.length+B.length) (hid:id<60) (hno:id ∉ A++B) (hT:TrAt pg' troot T' (upM M id (some b))) (hF:Fr T pg T' pg') {b' b'':List UInt8} (hb':SLeaf b' root (insL B (i-A.length) id)) (hb'':SInner b'' 0 [a,b] [A.length,(insL B (i-A.length) id).length]) :
  SqTwo (pset (pset pg' b (some b')) root (some b'')) root troot T' (upM M id (some b)) a b A (insL B (i-A.length) id):=by
 obtain ⟨br,r1,r2⟩:=h.rt
 obtain ⟨b1,a1,a2⟩:=h.la
 obtain ⟨b2,q1,q2⟩:=h.lb
 obtain ⟨t1,t2,t3⟩:=h.tn
 obtain ⟨n1,n2,n3⟩:=h.ne
 obtain ⟨f1,f2⟩:=hF root t1 (by rw [r1];simp)
 obtain ⟨f3,f4⟩:=hF a t2 (by rw [a1];simp)
 obtain ⟨f5,f6⟩:=hF b t3 (by rw [q1];simp)
 refine ⟨⟨b'',pset_same _ _ _,hb''⟩,⟨b1,by rw [pset_ne n2,pset_ne n1,f4];exact a1,a2⟩,⟨b',by rw [pset_ne n3,pset_same],hb'⟩,hT.frame fun x hx=>by rw [pset_ne (fun (e:x=root)=>f1 (e▸hx)),pset_ne (fun (e:x=b)=>f5 (e▸hx))],⟨f1,f3,f5⟩,h.ne,fun x=>?_,?_,fun x hx=>?_,by rw [insL_len (by omega)];have:=h.mi;omega⟩
 ·unfold upM
  rw [h.mm]
  by_cases e:x=id
  ·have hA:x ∉ A:=fun q=>hno (e▸List.mem_append_left _ q)
   rw [if_pos e,if_neg hA,if_pos (mem_ins.2 (.inl e))]
  ·rw [if_neg e]
   by_cases e2:x∈A
   ·rw [if_pos e2,if_pos e2]
   ·rw [if_neg e2,if_neg e2]
    by_cases e3:x∈B
    ·rw [if_pos e3,if_pos (mem_ins.2 (.inr e3))]
    ·rw [if_neg e3,if_neg (fun q=>(mem_ins.1 q).elim e e3)]
 ·rw [insL_app_r hi]
  exact nodup_ins h.nd hno (by rw [List.length_append];omega)
 ·rw [insL_app_r hi] at hx
  exact (mem_ins.1 hx).elim (fun e=>by rw [e];exact hid) (h.lt x)
set_option maxHeartbeats 1000000 in
theorem sqins_two (h:PoolAt base σ p m k pg) (hs:base s=some (.obj [.ptr p 0,.int .i64 root,.ptr t 0])) (ht:base t=some (.obj [.ptr p 0,.int .i64 troot])) (hS:SqTwo pg root troot T M a b A B) {i id:Nat} (hi:i<=A.length+B.length) (hid:id<60) (hno:id ∉ A++B) (htot:A.length+B.length<=59) (hroom:(k:Int)+2<=m) :
  ACalls Tryz.prog 8 [.ptr s 0,.int .i64 i,.int .u64 id] σ fun w σ'=>w = .int .i64 0/\∃ (k':Nat) (pg':Pgs) (T':Nat->Prop) (M':Nat->Option Nat) (A' B':List Nat),k'<=k+2/\A'++B'=insL (A++B) i id/\SqTwo pg' root troot T' M' a b A' B'/\PoolAt base σ' p m k' pg':=by
 obtain ⟨br,r1,r2⟩:=hS.rt
 obtain ⟨b1,a1,a2⟩:=hS.la
 obtain ⟨b2,q1,q2⟩:=hS.lb
 obtain ⟨t1,t2,t3⟩:=hS.tn
 obtain ⟨n1,n2,n3⟩:=hS.ne
 obtain ⟨mA,mB⟩:=hS.mi
 have hMid:M id=none:=by
  rw [hS.mm,if_neg (fun q=>hno (List.mem_append_left _ q)),if_neg (fun q=>hno (List.mem_append_right _ q))]
 have prr:=h.rng r1
 have hsn:∀ {n r},base n=none->(base.set n (some r)) s=some (.obj [.ptr p 0,.int .i64 root,.ptr t 0]):=fun {n r} hn=>by rw [ASt.set_ne (fun e=>by rw [e,hn] at hs;cases hs)];exact hs
 by_cases hA:i<A.length
 ·refine sqins_of (q:=a) (i':=i) (up:=root) (ids:=A) h hs ht hS.tr hS.m60 hid hMid (h.rng a1).2 (by omega) (by omega) hroom (fun σ hp=>sqdown_two hp hs r1 r2 (.inl ⟨hA,rfl,rfl⟩) (by omega) a1 a2) fun n r σ k' pg' T' hn hr hk' hT' hF hp=>?_
  obtain ⟨f1,f2⟩:=hF root t1 (by rw [r1];simp)
  obtain ⟨f3,f4⟩:=hF a t2 (by rw [a1];simp)
  have hlen:(insL A i id).length=A.length+1:=insL_len (by omega)
  refine (sqgrow_stay (Q:=fun pg2=>∃ b' b'',SLeaf b' root (insL A i id)/\SInner b'' 0 [a,b] [(insL A i id).length,B.length]/\pg2=pset (pset pg' a (some b')) root (some b'')) hp h.ck hn hs hr (by omega) prr.2 (u64_60 fun x hx=>(mem_ins.1 hx).elim (fun e=>by rw [e];exact hid) (fun e=>hS.lt x (List.mem_append_left _ e))) (f4.trans a1) fun σ' b' hb' hp'=>?_).mono ?_
  ·refine (sqtell_ok (i:=0) hp' (hsn hn) (ASt.set_same _ _ _) hr prr.1 (by rw [pset_ne (Ne.symm n2),f2];exact r1) r2 rfl (fun j hj=>absurd hj (Nat.not_lt_zero _)) (by omega)).mono ?_
   rintro w σ2 ⟨rfl,b'',hb'',hp2⟩
   exact ⟨rfl,_,⟨b',b'',hb',hb'',rfl⟩,hp2⟩
  ·rintro w σ2 ⟨rfl,pg2,⟨b',b'',hb',hb'',rfl⟩,hp2⟩
   exact ⟨rfl,k',_,T',_,insL A i id,B,hk',insL_app_l (by omega),hS.insA (by omega) hid hno hT' hF hb' hb'',hp2⟩
 ·refine sqins_of (q:=b) (i':=i-A.length) (up:=root) (ids:=B) h hs ht hS.tr hS.m60 hid hMid (h.rng q1).2 (by omega) (by omega) hroom (fun σ hp=>sqdown_two hp hs r1 r2 (.inr ⟨by omega,rfl,rfl⟩) (by omega) q1 q2) fun n r σ k' pg' T' hn hr hk' hT' hF hp=>?_
  obtain ⟨f1,f2⟩:=hF root t1 (by rw [r1];simp)
  obtain ⟨f3,f4⟩:=hF b t3 (by rw [q1];simp)
  have hlen:(insL B (i-A.length) id).length=B.length+1:=insL_len (by omega)
  refine (sqgrow_stay (Q:=fun pg2=>∃ b' b'',SLeaf b' root (insL B (i-A.length) id)/\SInner b'' 0 [a,b] [A.length,(insL B (i-A.length) id).length]/\pg2=pset (pset pg' b (some b')) root (some b'')) hp h.ck hn hs hr (by omega) prr.2 (u64_60 fun x hx=>(mem_ins.1 hx).elim (fun e=>by rw [e];exact hid) (fun e=>hS.lt x (List.mem_append_right _ e))) (f4.trans q1) fun σ' b' hb' hp'=>?_).mono ?_
  ·refine (sqtell_ok (i:=1) hp' (hsn hn) (ASt.set_same _ _ _) hr prr.1 (by rw [pset_ne (Ne.symm n3),f2];exact r1) r2 rfl (fun j hj=>by
    obtain rfl:j=0:=by omega
    intro e;injection e with e;exact n1 e) (by omega)).mono ?_
   rintro w σ2 ⟨rfl,b'',hb'',hp2⟩
   exact ⟨rfl,_,⟨b',b'',hb',hb'',rfl⟩,hp2⟩
  ·rintro w σ2 ⟨rfl,pg2,⟨b',b'',hb',hb'',rfl⟩,hp2⟩
   exact ⟨rfl,k',_,T',_,A,insL B (i-A.length) id,hk',insL_app_r (by omega),hS.insB (by omega) hi hid hno hT' hF hb' hb'',hp2⟩
end
end Go.A
namespace Go.A
open Go.Proofs
theorem delL_app_l {A B:List Nat} {i:Nat} (h:i<A.length):delL A i++B=delL (A++B) i:=by
 unfold delL
 rw [List.take_append_of_le_length (by omega),List.drop_append_of_le_length (by omega),List.append_assoc]
theorem delL_app_r {A B:List Nat} {i:Nat} (h:A.length<=i):A++delL B (i-A.length)=delL (A++B) i:=by
 have hz:A.drop (i+1) = []:=List.drop_of_length_le (by omega)
 unfold delL
 rw [List.take_append,List.drop_append,List.take_of_length_le h,hz,List.append_assoc,List.nil_append,show i+1-A.length=i-A.length+1 by omega]
theorem del_mem {l:List Nat} {i x y:Nat} (hn:l.Nodup) (hx:l[i]? = some x):y∈delL l i↔y∈l/\y≠x:=by
 have hi:=(List.getElem?_eq_some_iff.1 hx).1
 constructor
 ·intro h
  refine ⟨delL_mem h,fun e=>?_⟩
  subst e
  obtain ⟨j,hj⟩:=List.mem_iff_getElem?.1 h
  rw [delL_G,delG_get hi] at hj
  split at hj
  ·have:=nodup_inj hn hj hx;omega
  ·have:=nodup_inj hn hj hx;omega
 ·rintro ⟨h,hne⟩
  rw [split_at hx,List.mem_append,List.mem_cons] at h
  unfold delL
  rcases h with h|h|h
  ·exact List.mem_append_left _ h
  ·exact absurd h hne
  ·exact List.mem_append_right _ h
theorem even_map {M:Nat->Option Nat} {A B:List Nat} {a b h:Nat} (hM:∀ x,M x=if x∈A then some a else if x∈B then some b else none) (hn:(A++B).Nodup) (hh:h<=(A++B).length) (x:Nat) :
  (if A.length<h then adL M ((A++B).take h |>.drop A.length) a else adL M (((A++B).drop h).take (A.length-h)) b) x=if x∈(A++B).take h then some a else if x∈(A++B).drop h then some b else none:=by
 have hno:∀ y,y∈(A++B).take h->y ∉ (A++B).drop h:=fun y h1 h2=>by
  have:=hn
  rw [<-List.take_append_drop h (A++B),List.nodup_append] at this
  exact this.2.2 y h1 y h2 rfl
 have hab:∀ y,y∈A->y ∉ B:=fun y h1 h2=>by
  have:=hn
  rw [List.nodup_append] at this
  exact this.2.2 y h1 y h2 rfl
 have hin:∀ y,(y∈A\/y∈B)↔(y∈(A++B).take h\/y∈(A++B).drop h):=fun y=>by
  rw [<-List.mem_append,← List.mem_append,List.take_append_drop]
 by_cases hlt:A.length<h
 ·rw [if_pos hlt]
  have e1:((A++B).take h).drop A.length=B.take (h-A.length):=by
   rw [List.take_append,List.take_of_length_le (by omega),List.drop_append_of_le_length (Nat.le_refl _),List.drop_length,List.nil_append]
  have e2:(A++B).take h=A++B.take (h-A.length):=by rw [List.take_append,List.take_of_length_le (by omega)]
  rw [e1]
  unfold adL
  by_cases q:x∈B.take (h-A.length)
  ·rw [if_pos q,if_pos (by rw [e2];exact List.mem_append_right _ q)]
  ·rw [if_neg q,hM]
   by_cases qa:x∈A
   ·rw [if_pos qa,if_pos (by rw [e2];exact List.mem_append_left _ qa)]
   ·have hnt:x ∉ (A++B).take h:=fun e=>by
     rw [e2] at e
     exact (List.mem_append.1 e).elim qa q
    rw [if_neg qa,if_neg hnt]
    by_cases qb:x∈B
    ·rw [if_pos qb,if_pos (((hin x).1 (.inr qb)).resolve_left hnt)]
    ·rw [if_neg qb,if_neg (fun e=>((hin x).2 (.inr e)).elim qa qb)]
 ·rw [if_neg hlt]
  have e1:((A++B).drop h).take (A.length-h)=A.drop h:=by
   rw [List.drop_append_of_le_length (by omega),List.take_append_of_le_length (by rw [List.length_drop];omega),List.take_of_length_le (by rw [List.length_drop];omega)]
  have e2:(A++B).take h=A.take h:=List.take_append_of_le_length (by omega)
  have e3:(A++B).drop h=A.drop h++B:=List.drop_append_of_le_length (by omega)
  rw [e1]
  unfold adL
  by_cases q:x∈A.drop h
  ·have hd:x∈(A++B).drop h:=by rw [e3];exact List.mem_append_left _ q
   rw [if_pos q,if_neg (fun e=>hno x e hd),if_pos hd]
  ·rw [if_neg q,hM]
   by_cases qa:x∈A
   ·have ht:x∈(A++B).take h:=by
     rw [e2]
     rw [<-List.take_append_drop h A,List.mem_append] at qa
     exact qa.resolve_right q
    rw [if_pos qa,if_pos ht]
   ·have hnt:x ∉ (A++B).take h:=fun e=>by rw [e2] at e;exact qa (List.mem_of_mem_take e)
    rw [if_neg qa,if_neg hnt]
    by_cases qb:x∈B
    ·rw [if_pos qb,if_pos (by rw [e3];exact List.mem_append_right _ qb)]
    ·rw [if_neg qb,if_neg (fun e=>by rw [e3] at e;exact (List.mem_append.1 e).elim q qb)]
section
variable {base σ:ASt} {p k t root troot s a b:Nat} {m:Int} {pg pg':Pgs} {T T':Nat->Prop} {M M':Nat->Option Nat} {A B:List Nat}
theorem SqTwo.mk' {pg:Pgs} {h:Nat} {b1 b2 b3:List UInt8} {L:List Nat} (ha:pg a=some b1/\SLeaf b1 root (L.take h)/\¬ T a) (hb:pg b=some b2/\SLeaf b2 root (L.drop h)/\¬ T b) (hr:pg root=some b3/\SInner b3 0 [a,b] [h,L.length-h]/\¬ T root) (hT:TrAt pg troot T M) (ne:a≠b/\a≠root/\b≠root)
  (hM:∀ x,M x=if x∈L.take h then some a else if x∈L.drop h then some b else none) (hn:L.Nodup) (hl:∀ x∈L,x<60) (hh:24<=h) (hh2:h+24<=L.length):SqTwo pg root troot T M a b (L.take h) (L.drop h):=by
 have l1:(L.take h).length=h:=by rw [List.length_take];omega
 have l2:(L.drop h).length=L.length-h:=List.length_drop
 refine ⟨⟨b3,hr.1,by rw [l1,l2];exact hr.2.1⟩,⟨b1,ha.1,ha.2.1⟩,⟨b2,hb.1,hb.2.1⟩,hT,⟨hr.2.2,ha.2.2,hb.2.2⟩,ne,hM,by rw [List.take_append_drop];exact hn,by rw [List.take_append_drop];exact hl,by omega⟩
set_option maxHeartbeats 1000000 in
theorem sqdrop_two (h:PoolAt base σ p m k pg) (hs:base s=some (.obj [.ptr p 0,.int .i64 root,.ptr t 0])) (ht:base t=some (.obj [.ptr p 0,.int .i64 troot])) (hS:SqTwo pg root troot T M a b A B) {i x:Nat} (hi:(A++B)[i]? = some x) (htot:A.length+B.length=60) (hroom:(k:Int)+14<=m) :
  ACalls Tryz.prog 34 [.ptr s 0,.int .i64 i] σ fun w σ'=>w = .tuple [.int .u64 x,.int .i64 0]/\∃ (k':Nat) (pg':Pgs) (T':Nat->Prop) (M':Nat->Option Nat) (A' B':List Nat),k'<=k+14/\A'++B'=delL (A++B) i/\SqTwo pg' root troot T' M' a b A' B'/\PoolAt base σ' p m k' pg':=by
 obtain ⟨br,r1,r2⟩:=hS.rt
 obtain ⟨b1,a1,a2⟩:=hS.la
 obtain ⟨b2,q1,q2⟩:=hS.lb
 obtain ⟨t1,t2,t3⟩:=hS.tn
 obtain ⟨n1,n2,n3⟩:=hS.ne
 obtain ⟨mA,mB⟩:=hS.mi
 have hil:=(List.getElem?_eq_some_iff.1 hi).1
 have hLl:(A++B).length=60:=by rw [List.length_append];exact htot
 have prr:=h.rng r1
 have hsn:∀ {n r},base n=none->(base.set n (some r)) s=some (.obj [.ptr p 0,.int .i64 root,.ptr t 0]):=fun {n r} hn=>by rw [ASt.set_ne (fun e=>by rw [e,hn] at hs;cases hs)];exact hs
 have hbig:∀ l:List Nat,(∀ x,M x≠none->x∈l)->32<=l.length:=fun l hl=>by
  have:=sub_len (S:=A++B) (l:=l) hS.nd fun y hy=>hl y (by
   rw [hS.mm]
   split
   ·simp
   ·rename_i e
    rw [if_pos ((List.mem_append.1 hy).resolve_left e)];simp)
  omega
 have hdn:(delL (A++B) i).Nodup:=nodup_del hS.nd hil
 have hdl:∀ y∈delL (A++B) i,y<60:=fun y hy=>hS.lt y (delL_mem hy)
 have hdlen:(delL (A++B) i).length=59:=by rw [delL_len hil];omega
 have hdm:∀ y,y∈delL (A++B) i↔y∈A++B/\y≠x:=fun y=>del_mem hS.nd hi
 have hM60:∀ k v,upM M x none k=some v->k<60:=fun y v hv=>by
  unfold upM at hv
  split at hv
  ·cases hv
  ·exact hS.m60 y v hv
 by_cases hA:i<A.length
 ·have hx:A[i]? = some x:=by rw [List.getElem?_append_left hA] at hi;exact hi
  have hMx:M x=some a:=by rw [hS.mm,if_pos (List.mem_of_getElem? hx)]
  have hlen:(delL A i).length=A.length-1:=delL_len hA
  have happ:=delL_app_l (B:=B) hA
  have hMM:∀ y,upM M x none y=if y∈delL A i then some a else if y∈B then some b else none:=fun y=>by
   unfold upM
   rw [hS.mm]
   have hAn:A.Nodup:=(List.nodup_append.1 hS.nd).1
   by_cases e:y=x
   ·subst e
    have hyB:y ∉ B:=fun q=>(List.nodup_append.1 hS.nd).2.2 y (List.mem_of_getElem? hx) y q rfl
    rw [if_pos rfl,if_neg (fun q=>((del_mem hAn hx).1 q).2 rfl),if_neg hyB]
   ·rw [if_neg e]
    by_cases qa:y∈A
    ·rw [if_pos qa,if_pos ((del_mem hAn hx).2 ⟨qa,e⟩)]
    ·rw [if_neg qa,if_neg (fun q=>qa (delL_mem q))]
  refine sqdrop_of (q:=a) (i':=i) (up:=root) (ids:=A) h hs ht hS.tr hx hMx (by omega) hbig (fun σ hp=>sqdown_two hp hs r1 r2 (.inl ⟨hA,rfl,rfl⟩) (by omega) a1 a2) fun n r σ pg' T' hn hr hT' hF hp=>?_
  obtain ⟨f1,f2⟩:=hF root t1 (by rw [r1];simp)
  obtain ⟨f3,f4⟩:=hF a t2 (by rw [a1];simp)
  obtain ⟨f5,f6⟩:=hF b t3 (by rw [q1];simp)
  have hu:u64L (delL A i):=u64_60 fun y hy=>hS.lt y (List.mem_append_left _ (delL_mem hy))
  by_cases h24:24<=(delL A i).length
  ·refine (sqshrink_stay (Q:=fun pg2=>∃ b' b'',SLeaf b' root (delL A i)/\SInner b'' 0 [a,b] [(delL A i).length,B.length]/\pg2=pset (pset pg' a (some b')) root (some b'')) hp h.ck hn hs hr h24 (by omega) n2 prr.2 hu (f4.trans a1) fun σ' b' hb' hp'=>?_).mono ?_
   ·refine (sqtell_ok (i:=0) hp' (hsn hn) (ASt.set_same _ _ _) hr prr.1 (by rw [pset_ne (Ne.symm n2),f2];exact r1) r2 rfl (fun j hj=>absurd hj (Nat.not_lt_zero _)) (by omega)).mono ?_
    rintro w σ2 ⟨rfl,b'',hb'',hp2⟩
    exact ⟨rfl,_,⟨b',b'',hb',hb'',rfl⟩,hp2⟩
   ·rintro w σ2 ⟨rfl,pg2,⟨b',b'',hb',hb'',rfl⟩,hp2⟩
    refine ⟨rfl,k,_,T',_,delL A i,B,by omega,happ,⟨⟨b'',pset_same _ _ _,hb''⟩,⟨b',by rw [pset_ne n2,pset_same],hb'⟩,⟨b2,by rw [pset_ne n3,pset_ne (Ne.symm n1),f6];exact q1,q2⟩,hT'.frame fun z hz=>by rw [pset_ne (fun (e:z=root)=>f1 (e▸hz)),pset_ne (fun (e:z=a)=>f3 (e▸hz))],⟨f1,f3,f5⟩,hS.ne,hMM,by rw [happ];exact hdn,by rw [happ];exact hdl,h24,mB⟩,hp2⟩
  ·have hA23:(delL A i).length=23:=by omega
   refine (sqshrink_even (a:=a) (b:=b) (i:=0) (A:=delL A i) (B:=B) hp h.ck hn hs ht hr (by omega) n2 hu (f2.trans r1) r2 (.inl ⟨rfl,rfl⟩) n1 n2 n3 (f4.trans a1) (fun b' hb'=>⟨b',b2,pset_same _ _ _,hb',by rw [pset_ne (Ne.symm n1),f6];exact q1,q2⟩) (fun e=>by rw [e] at hA23;simp at hA23) (fun e=>by rw [e] at mB;simp at mB) (by omega) (h:=29) (by omega) hM60 (by rw [happ];exact hdl) hT' f3 f5 f1 (by omega)).mono ?_
   rintro w σ2 ⟨rfl,c1,c2,c3,k',pg2,T2,M2,rfl,hk',ha,hb,hr',hT2,hp2⟩
   rw [happ] at ha hb hr' hT2
   refine ⟨rfl,k',pg2,T2,_,_,_,by omega,List.take_append_drop 29 _,SqTwo.mk' ha hb hr' hT2 hS.ne (fun y=>?_) hdn hdl (by omega) (by omega),hp2⟩
   rw [<-happ]
   exact even_map hMM (by rw [happ];exact hdn) (by rw [happ,hdlen];omega) y
 ·have hA:A.length<=i:=Nat.le_of_not_lt hA
  have hx:B[i-A.length]? = some x:=by rw [List.getElem?_append_right hA] at hi;exact hi
  have hiB:i-A.length<B.length:=(List.getElem?_eq_some_iff.1 hx).1
  have hxA:x ∉ A:=fun q=>(List.nodup_append.1 hS.nd).2.2 x q x (List.mem_of_getElem? hx) rfl
  have hMx:M x=some b:=by rw [hS.mm,if_neg hxA,if_pos (List.mem_of_getElem? hx)]
  have hlen:(delL B (i-A.length)).length=B.length-1:=delL_len hiB
  have happ:=delL_app_r (B:=B) hA
  have hMM:∀ y,upM M x none y=if y∈A then some a else if y∈delL B (i-A.length) then some b else none:=fun y=>by
   unfold upM
   rw [hS.mm]
   have hBn:B.Nodup:=(List.nodup_append.1 hS.nd).2.1
   by_cases e:y=x
   ·subst e
    rw [if_pos rfl,if_neg hxA,if_neg (fun q=>((del_mem hBn hx).1 q).2 rfl)]
   ·rw [if_neg e]
    by_cases qa:y∈A
    ·rw [if_pos qa,if_pos qa]
    ·rw [if_neg qa,if_neg qa]
     by_cases qb:y∈B
     ·rw [if_pos qb,if_pos ((del_mem hBn hx).2 ⟨qb,e⟩)]
     ·rw [if_neg qb,if_neg (fun q=>qb (delL_mem q))]
  refine sqdrop_of (q:=b) (i':=i-A.length) (up:=root) (ids:=B) h hs ht hS.tr hx hMx (by omega) hbig (fun σ hp=>sqdown_two hp hs r1 r2 (.inr ⟨by omega,rfl,rfl⟩) (by omega) q1 q2) fun n r σ pg' T' hn hr hT' hF hp=>?_
  obtain ⟨f1,f2⟩:=hF root t1 (by rw [r1];simp)
  obtain ⟨f3,f4⟩:=hF a t2 (by rw [a1];simp)
  obtain ⟨f5,f6⟩:=hF b t3 (by rw [q1];simp)
  have hu:u64L (delL B (i-A.length)):=u64_60 fun y hy=>hS.lt y (List.mem_append_right _ (delL_mem hy))
  by_cases h24:24<=(delL B (i-A.length)).length
  ·refine (sqshrink_stay (Q:=fun pg2=>∃ b' b'',SLeaf b' root (delL B (i-A.length))/\SInner b'' 0 [a,b] [A.length,(delL B (i-A.length)).length]/\pg2=pset (pset pg' b (some b')) root (some b'')) hp h.ck hn hs hr h24 (by omega) n3 prr.2 hu (f6.trans q1) fun σ' b' hb' hp'=>?_).mono ?_
   ·refine (sqtell_ok (i:=1) hp' (hsn hn) (ASt.set_same _ _ _) hr prr.1 (by rw [pset_ne (Ne.symm n3),f2];exact r1) r2 rfl (fun j hj=>by
     obtain rfl:j=0:=by omega
     intro e;injection e with e;exact n1 e) (by omega)).mono ?_
    rintro w σ2 ⟨rfl,b'',hb'',hp2⟩
    exact ⟨rfl,_,⟨b',b'',hb',hb'',rfl⟩,hp2⟩
   ·rintro w σ2 ⟨rfl,pg2,⟨b',b'',hb',hb'',rfl⟩,hp2⟩
    refine ⟨rfl,k,_,T',_,A,delL B (i-A.length),by omega,happ,⟨⟨b'',pset_same _ _ _,hb''⟩,⟨b1,by rw [pset_ne n2,pset_ne n1,f4];exact a1,a2⟩,⟨b',by rw [pset_ne n3,pset_same],hb'⟩,hT'.frame fun z hz=>by rw [pset_ne (fun (e:z=root)=>f1 (e▸hz)),pset_ne (fun (e:z=b)=>f5 (e▸hz))],⟨f1,f3,f5⟩,hS.ne,hMM,by rw [happ];exact hdn,by rw [happ];exact hdl,mA,h24⟩,hp2⟩
  ·have hB23:(delL B (i-A.length)).length=23:=by omega
   refine (sqshrink_even (a:=a) (b:=b) (i:=1) (A:=A) (B:=delL B (i-A.length)) hp h.ck hn hs ht hr (by omega) n3 hu (f2.trans r1) r2 (.inr ⟨rfl,rfl⟩) n1 n2 n3 (f6.trans q1) (fun b' hb'=>⟨b1,b',by rw [pset_ne n1,f4];exact a1,a2,pset_same _ _ _,hb'⟩) (fun e=>by rw [e] at mA;simp at mA) (fun e=>by rw [e] at hB23;simp at hB23) (by omega) (h:=29) (by omega) hM60 (by rw [happ];exact hdl) hT' f3 f5 f1 (by omega)).mono ?_
   rintro w σ2 ⟨rfl,c1,c2,c3,k',pg2,T2,M2,rfl,hk',ha,hb,hr',hT2,hp2⟩
   rw [happ] at ha hb hr' hT2
   refine ⟨rfl,k',pg2,T2,_,_,_,by omega,List.take_append_drop 29 _,SqTwo.mk' ha hb hr' hT2 hS.ne (fun y=>?_) hdn hdl (by omega) (by omega),hp2⟩
   rw [<-happ]
   exact even_map hMM (by rw [happ];exact hdn) (by rw [happ,hdlen];omega) y
end
end Go.A
namespace Go.A
open Go.Proofs
section
variable {base σ:ASt} {p k t root troot s a b:Nat} {m:Int} {pg pg':Pgs} {T T':Nat->Prop} {M M':Nat->Option Nat} {A B:List Nat}
theorem SqOne.m60 (h:SqOne pg root troot T M A):∀ k v,M k=some v->k<60:=fun x v hv=>by
 rw [h.mm] at hv
 split at hv
 ·rename_i e;exact h.lt x e
 ·cases hv
theorem sqins_one (h:PoolAt base σ p m k pg) (hs:base s=some (.obj [.ptr p 0,.int .i64 root,.ptr t 0])) (ht:base t=some (.obj [.ptr p 0,.int .i64 troot])) (hS:SqOne pg root troot T M A) {i id:Nat} (hi:i<=A.length) (hid:id<60) (hno:id ∉ A) (htot:A.length<=47) (hroom:(k:Int)+2<=m) :
  ACalls Tryz.prog 8 [.ptr s 0,.int .i64 i,.int .u64 id] σ fun w σ'=>w = .int .i64 0/\∃ (k':Nat) (pg':Pgs) (T':Nat->Prop) (M':Nat->Option Nat),k'<=k+2/\SqOne pg' root troot T' M' (insL A i id)/\PoolAt base σ' p m k' pg':=by
 obtain ⟨br,r1,r2⟩:=hS.lf
 have hMid:M id=none:=by rw [hS.mm,if_neg hno]
 have prr:=h.rng r1
 refine sqins_of (q:=root) (i':=i) (up:=0) (ids:=A) h hs ht hS.tr hS.m60 hid hMid prr.2 hi (by omega) hroom (fun σ hp=>sqdown_one hp hs r1 r2 i) fun n r σ k' pg' T' hn hr hk' hT' hF hp=>?_
 obtain ⟨f1,f2⟩:=hF root hS.tn (by rw [r1];simp)
 have hlen:(insL A i id).length=A.length+1:=insL_len hi
 have hlt:∀ x∈insL A i id,x<60:=fun x hx=>(mem_ins.1 hx).elim (fun e=>by rw [e];exact hid) (hS.lt x)
 refine (sqgrow_stay (Q:=fun pg2=>∃ b',SLeaf b' 0 (insL A i id)/\pg2=pset pg' root (some b')) hp h.ck hn hs hr (by omega) (by omega) (u64_60 hlt) (f2.trans r1) fun σ' b' hb' hp'=>?_).mono ?_
 ·refine (sqtell_none (s:=s) (page:=root) (hp'.at (ASt.set_same base n (some r))) hr).mono ?_
  rintro w σ2 ⟨rfl,rfl⟩
  exact ⟨rfl,_,⟨b',hb',rfl⟩,hp'⟩
 ·rintro w σ2 ⟨rfl,pg2,⟨b',hb',rfl⟩,hp2⟩
  refine ⟨rfl,k',_,T',_,hk',⟨⟨b',pset_same _ _ _,hb'⟩,hT'.frame fun z hz=>pset_ne (fun (e:z=root)=>f1 (e▸hz)),f1,fun x=>?_,nodup_ins hS.nd hno hi,hlt⟩,hp2⟩
  unfold upM
  rw [hS.mm]
  by_cases e:x=id
  ·rw [if_pos e,if_pos (mem_ins.2 (.inl e))]
  ·rw [if_neg e]
   by_cases e2:x∈A
   ·rw [if_pos e2,if_pos (mem_ins.2 (.inr e2))]
   ·rw [if_neg e2,if_neg (fun q=>(mem_ins.1 q).elim e e2)]
theorem sqins_full (h:PoolAt base σ p m k pg) (hs:base s=some (.obj [.ptr p 0,.int .i64 root,.ptr t 0])) (ht:base t=some (.obj [.ptr p 0,.int .i64 troot])) (hS:SqOne pg root troot T M A) {i id:Nat} (hi:i<=A.length) (hid:id<60) (hno:id ∉ A) (htot:A.length=48) (hroom:(k:Int)+102<=m) :
  ACalls Tryz.prog 8 [.ptr s 0,.int .i64 i,.int .u64 id] σ fun w σ'=>w = .int .i64 0/\∃ (k':Nat) (pg':Pgs) (T':Nat->Prop) (M':Nat->Option Nat) (a b:Nat) (A' B':List Nat),k'<=k+102/\A'++B'=insL A i id/\SqTwo pg' root troot T' M' a b A' B'/\PoolAt base σ' p m k' pg':=by
 obtain ⟨br,r1,r2⟩:=hS.lf
 have hMid:M id=none:=by rw [hS.mm,if_neg hno]
 have prr:=h.rng r1
 refine sqins_of (q:=root) (i':=i) (up:=0) (ids:=A) h hs ht hS.tr hS.m60 hid hMid prr.2 hi (by omega) (by omega) (fun σ hp=>sqdown_one hp hs r1 r2 i) fun n r σ k' pg' T' hn hr hk' hT' hF hp=>?_
 obtain ⟨f1,f2⟩:=hF root hS.tn (by rw [r1];simp)
 have hlen:(insL A i id).length=49:=by rw [insL_len hi];omega
 have hlt:∀ x∈insL A i id,x<60:=fun x hx=>(mem_ins.1 hx).elim (fun e=>by rw [e];exact hid) (hS.lt x)
 have hnd:(insL A i id).Nodup:=nodup_ins hS.nd hno hi
 have hmem:∀ x,upM M id (some root) x=none\/x∈insL A i id:=fun x=>by
  unfold upM
  rw [hS.mm]
  by_cases e:x=id
  ·exact .inr (mem_ins.2 (.inl e))
  ·rw [if_neg e]
   by_cases e2:x∈A
   ·exact .inr (mem_ins.2 (.inr e2))
   ·exact .inl (if_neg e2)
 have h60:∀ k v,upM M id (some root) k=some v->k<60:=fun y v hv=>by
  rcases hmem y with q|q
  ·rw [q] at hv;cases hv
  ·exact hlt y q
 generalize insL A i id=L at *
 have hsn:s≠n:=fun e=>by rw [e,hn] at hs;cases hs
 have hra:=sqraise_ok (h:=24) hp h.ck hn hs ht hr hT' h60 hlt (by omega) (by omega) (by omega) (f2.trans r1) f1 (u64_60 hlt) (by omega)
 refine (sqgrow_raise (Q:=fun σ'=>∃ (q1 q2:Nat) (b1 b2 b3:List UInt8) (k2:Nat) (pg2:Pgs) (T2:Nat->Prop),k2<=k'+2+2*L.length/\(q1≠q2/\q1≠root/\q2≠root/\¬ T2 root/\¬ T2 q1/\¬ T2 q2) ∧
   (pg2 q1=some b1/\SLeaf b1 root (L.take 24))/\(pg2 q2=some b2/\SLeaf b2 root (L.drop 24))/\(pg2 root=some b3/\SInner b3 0 [q1,q2] [(L.take 24).length,(L.drop 24).length])/\TrAt pg2 troot T2 (adL (adL (upM M id (some root)) (L.take 24) q1) (L.drop 24) q2)/\PoolAt base σ' p m k2 pg2) (hp.at (ASt.set_same base n (some r))) hr (by omega) (by omega) (hp.at ((ASt.set_ne hsn).trans hs)) hra).mono ?_
 rintro w σ2 ⟨rfl,q1,q2,b1,b2,b3,k2,pg2,T2,hk2,⟨c1,c2,c3,c4,c5,c6⟩,⟨d1,d2⟩,⟨e1,e2⟩,⟨g1,g2⟩,hT2,hp2⟩
 have l1:(L.take 24).length=24:=by rw [List.length_take];omega
 have l2:(L.drop 24).length=25:=by rw [List.length_drop];omega
 refine ⟨rfl,k2,pg2,T2,_,q1,q2,L.take 24,L.drop 24,by omega,List.take_append_drop 24 L,⟨⟨b3,g1,g2⟩,⟨b1,d1,d2⟩,⟨b2,e1,e2⟩,hT2,⟨c4,c5,c6⟩,⟨c1,c2,c3⟩,fun x=>?_,by rw [List.take_append_drop];exact hnd,by rw [List.take_append_drop];exact hlt,by omega⟩,hp2⟩
 have hno:x∈L.take 24->x ∉ L.drop 24:=fun h1 h2=>by
  have:=hnd
  rw [<-List.take_append_drop 24 L,List.nodup_append] at this
  exact this.2.2 x h1 x h2 rfl
 unfold adL
 by_cases qa:x∈L.take 24
 ·rw [if_neg (hno qa),if_pos qa,if_pos qa]
 ·rw [if_neg qa,if_neg qa]
  by_cases qb:x∈L.drop 24
  ·rw [if_pos qb,if_pos qb]
  ·rw [if_neg qb,if_neg qb]
   rcases hmem x with q|q
   ·exact q
   ·rw [<-List.take_append_drop 24 L,List.mem_append] at q
    exact absurd q (by rintro (q|q);exact qa q;exact qb q)
end
end Go.A
namespace Go.A
open Go.Proofs
/-! 9: (*tabular/seq.Seq).Move -/
def c9_29:ACode := .seq (.ops [ oq 56 (.bin .lss (.t 55) (.t 54))]) (.seq (.cond (.t 56) .skip (.exit 0)) (.seq (.block 1 (.seq (.ops [ oq 58 (.mv (.t 0)),oq 59 (.mv (.t 1)),oe 60 (.call 34 [(.t 58),(.t 59)]),oq 57 (.mv (.t 60)),oq 61 (.ext 0 (.t 57)),oq 62 (.ext 1 (.t 57)),oq 12 (.mv (.t 61)),oq 13 (.mv (.t 62))]) (.seq (.seq (.ops [ oq 63 (.mv (.t 13)),oq 64 (.bin .neq (.t 63) (.v (.int .i64 0)))]) (.cond (.t 64) (.seq (.ops [ oq 65 (.mv (.t 13)),oq 8 (.mv (.t 65))]) .ret) .skip)) (.ops [ oq 66 (.mv (.t 11)),oq 67 (.mv (.t 12)),oq 68 (.bslv 1 [(.t 67)]),oe 69 (.app 33 1 8 [(.int .u64 0)] (.t 66) (.t 68)),oq 11 (.mv (.t 69))])))) (.ops [ oq 70 (.bin .add (.t 55) (.v (.int .i64 1))),oq 55 (.mv (.t 70))])))
def c9_49:ACode := .seq (.ops [ oq 74 (.bin .lss (.t 73) (.t 72))]) (.seq (.cond (.t 74) .skip (.exit 2)) (.seq (.block 3 (.seq (.ops [ oq 75 (.mv (.t 73)),oq 76 (.ia 1 (.t 71) (.t 73)),oq 77 (.ld none (.t 76)),oq 14 (.mv (.t 75)),oq 15 (.mv (.t 77))]) (.seq (.ops [ oq 78 (.mv (.t 0)),oq 79 (.mv (.t 3)),oq 80 (.mv (.t 14)),oq 81 (.bin .add (.t 79) (.t 80)),oq 82 (.mv (.t 15)),oe 83 (.call 8 [(.t 78),(.t 81),(.t 82)]),oq 16 (.mv (.t 83))]) (.seq (.ops [ oq 84 (.mv (.t 16)),oq 85 (.bin .neq (.t 84) (.v (.int .i64 0)))]) (.cond (.t 85) (.seq (.ops [ oq 86 (.mv (.t 16)),oq 8 (.mv (.t 86))]) .ret) .skip))))) (.ops [ oq 87 (.bin .add (.t 73) (.v (.int .i64 1))),oq 73 (.mv (.t 87))])))
def c9_61:ACode := .seq (.ops [ oq 8 (.mv (.v (.int .i64 0)))]) (.seq (.ops [ oq 18 (.mv (.t 0)),oe 19 (.call 33 [(.t 18)]),oq 17 (.mv (.t 19)),oq 20 (.ext 0 (.t 17)),oq 21 (.ext 1 (.t 17)),oq 9 (.mv (.t 20)),oq 10 (.mv (.t 21))]) (.seq (.seq (.ops [ oq 22 (.mv (.t 10)),oq 23 (.bin .neq (.t 22) (.v (.int .i64 0)))]) (.cond (.t 23) (.seq (.ops [ oq 24 (.mv (.t 10)),oq 8 (.mv (.t 24))]) .ret) .skip)) (.seq (.seq (.ops [ oq 25 (.mv (.t 1)),oq 26 (.bin .lss (.t 25) (.v (.int .i64 0))),oq 27 (.mv (.t 26)),⟨some 28,some (27,false),.q (.mv (.t 2)),[]⟩,⟨some 29,some (27,false),.q (.bin .lss (.t 28) (.v (.int .i64 0))),[]⟩,oq 30 (.pick (.t 27) (.v (.bool true)) (.t 29)),oq 31 (.mv (.t 30)),⟨some 32,some (31,false),.q (.mv (.t 2)),[]⟩,⟨some 33,some (31,false),.q (.mv (.t 9)),[]⟩,⟨some 34,some (31,false),.q (.bin .gtr (.t 32) (.t 33)),[]⟩,oq 35 (.pick (.t 31) (.v (.bool true)) (.t 34)),oq 36 (.mv (.t 35)),⟨some 37,some (36,false),.q (.mv (.t 1)),[]⟩,⟨some 38,some (36,false),.q (.mv (.t 9)),[]⟩,⟨some 39,some (36,false),.q (.mv (.t 2)),[]⟩,⟨some 40,some (36,false),.q (.bin .sub (.t 38) (.t 39)),[]⟩,⟨some 41,some (36,false),.q (.bin .gtr (.t 37) (.t 40)),[]⟩,oq 42 (.pick (.t 36) (.v (.bool true)) (.t 41)),oq 43 (.mv (.t 42)),⟨some 44,some (43,false),.q (.mv (.t 3)),[]⟩,⟨some 45,some (43,false),.q (.bin .lss (.t 44) (.v (.int .i64 0))),[]⟩,oq 46 (.pick (.t 43) (.v (.bool true)) (.t 45)),oq 47 (.mv (.t 46)),⟨some 48,some (47,false),.q (.mv (.t 3)),[]⟩,⟨some 49,some (47,false),.q (.mv (.t 9)),[]⟩,⟨some 50,some (47,false),.q (.mv (.t 2)),[]⟩,⟨some 51,some (47,false),.q (.bin .sub (.t 49) (.t 50)),[]⟩,⟨some 52,some (47,false),.q (.bin .gtr (.t 48) (.t 51)),[]⟩,oq 53 (.pick (.t 47) (.v (.bool true)) (.t 52))]) (.cond (.t 53) (.seq (.ops [ oq 8 (.mv (.v (.int .i64 1)))]) .ret) .skip)) (.seq (.ops [ oq 11 (.mv (.v (.sl .full [])))]) (.seq (.seq (.ops [ oq 54 (.mv (.t 2)),oq 55 (.mv (.v (.int .i64 0)))]) (.block 0 (.loop c9_29))) (.seq (.seq (.ops [ oq 71 (.mv (.t 11)),oq 72 (.len (.t 71)),oq 73 (.mv (.v (.int .i64 0)))]) (.block 2 (.loop c9_49))) (.seq (.ops [ oq 8 (.mv (.v (.int .i64 0)))]) .ret)))))))
@[go_sem] def c9_29_wp:=wp_of c9_29.eq_1
@[go_sem] def c9_49_wp:=wp_of c9_49.eq_1
@[go_sem] def c9_61_wp:=wp_of c9_61.eq_1
def c9:AFn:=⟨88,[.t 8],c9_61⟩
theorem c9_ok:compF Tryz.prog Tryz.f9=some c9:=by kernel_rfl
theorem a9 {args:List AV} {σ:ASt} {R:AV->ASt->Prop} (hl:args.length<=88) (h:c9_61.wp Tryz.prog (RetQ [.t 8] R) (init args) σ):ACalls Tryz.prog 9 args σ R:=acalls_of Tryz.func9 c9_ok hl h
end Go.A
namespace Go.A
open Go.Proofs
section
variable {base σ:ASt} {p k t root troot s a b:Nat} {m:Int} {pg pg':Pgs} {T T':Nat->Prop} {M M':Nat->Option Nat} {A B:List Nat}
set_option maxHeartbeats 2000000 in
theorem sqmove_two (h:PoolAt base σ p m k pg) (hs:base s=some (.obj [.ptr p 0,.int .i64 root,.ptr t 0])) (ht:base t=some (.obj [.ptr p 0,.int .i64 troot])) (hS:SqTwo pg root troot T M a b A B) {i j x:Nat} (hi:(A++B)[i]? = some x) (hj:j<=59) (htot:A.length+B.length=60) (hroom:(k:Int)+16<=m) :
  ACalls Tryz.prog 9 [.ptr s 0,.int .i64 i,.int .i64 1,.int .i64 j] σ fun w σ'=>w = .int .i64 0/\∃ (k':Nat) (pg':Pgs) (T':Nat->Prop) (M':Nat->Option Nat) (A' B':List Nat),k'<=k+16/\A'++B'=insL (delL (A++B) i) j x/\SqTwo pg' root troot T' M' a b A' B'/\PoolAt base σ' p m k' pg':=by
 obtain ⟨K,hK⟩:∃ K:AV->ASt->Prop,K=fun w σ'=>w = .int .i64 0/\∃ (k':Nat) (pg':Pgs) (T':Nat->Prop) (M':Nat->Option Nat) (A' B':List Nat),k'<=k+16/\A'++B'=insL (delL (A++B) i) j x/\SqTwo pg' root troot T' M' a b A' B'/\PoolAt base σ' p m k' pg':=⟨_,rfl⟩
 suffices hSS:ACalls Tryz.prog 9 [.ptr s 0,.int .i64 i,.int .i64 1,.int .i64 j] σ K by rw [hK] at hSS;exact hSS
 obtain ⟨br,r1,r2⟩:=hS.rt
 have hil:=(List.getElem?_eq_some_iff.1 hi).1
 have hLl:(A++B).length=60:=by rw [List.length_append];exact htot
 have hsum : [A.length,B.length].sum=60:=by simp only [List.sum_cons,List.sum_nil];omega
 have hlen:=sqlen_ok h hs r1 (nd := .inner 0 [a,b] [A.length,B.length]) r2 (c:=60) fun r σ n hn hr=>by
  have:=sqcount_inner hn hr (by omega) (by simp only [List.length_cons,List.length_nil];omega)
  rw [hsum] at this
  exact this
 have e60:((60:Nat):Int)=60:=rfl
 rw [e60] at hlen
 have i0:¬ (i:Int)<0:=by omega
 have j0:¬ (j:Int)<0:=by omega
 have i1:¬ (59:Int)<(i:Int):=by omega
 have j1:¬ (59:Int)<(j:Int):=by omega
 have hdlen:(delL (A++B) i).length=59:=by rw [delL_len hil];omega
 have hxd:x ∉ delL (A++B) i:=fun q=>((del_mem hS.nd hi).1 q).2 rfl
 have hx60:x<60:=hS.lt x (List.mem_of_getElem? hi)
 refine a9 (by simp) ?_
 simp (disch:=first|assumption|omega|(simp only [List.length_append,List.length_cons,List.length_nil];omega)) only [go_sem]
 refine hlen.mono ?_
 rintro w σ1 ⟨rfl,h1⟩
 simp (disch:=first|assumption|omega|(simp only [List.length_append,List.length_cons,List.length_nil];omega)) only [go_sem,i0,j0,i1,j1]
 obtain ⟨J,hJ⟩:∃ J:Nat->AFr->ASt->Prop,J=fun q a1 s2=>(a1 0 = .ptr s 0/\a1 1 = .int .i64 i/\a1 3 = .int .i64 j/\a1 54 = .int .i64 1/\a1 55 = .int .i64 q)/\(q=0/\a1 11 = .sl .full []/\s2=σ1\/q=1/\∃ (v:AV) (B1:ASt) (k':Nat) (pg':Pgs) (T':Nat->Prop) (M':Nat->Option Nat) (A' B':List Nat),a1 11=v/\k'<=k+14/\A'++B'=delL (A++B) i/\SqTwo pg' root troot T' M' a b A' B'/\Kept base B1/\OwnR base B1 .u64 v [x]/\PoolAt B1 s2 p m k' pg'):=⟨_,rfl⟩
 refine wp_loop_on J (fun i=>2-i) 0 ?_ ?_
 ·rw [hJ]
  refine ⟨?_,.inl ⟨rfl,?_,rfl⟩⟩
  ·simp (disch:=first|assumption|omega|(simp only [List.length_append,List.length_cons,List.length_nil];omega)) only [go_sem]
  ·simp (disch:=first|assumption|omega|(simp only [List.length_append,List.length_cons,List.length_nil];omega)) only [go_sem]
 intro q a1 s2 hj'
 rw [hJ] at hj'
 obtain ⟨hf,hc⟩:=hj'
 rcases hc with ⟨rfl,hf2,rfl⟩|⟨rfl,v,B1,k',pg',T',M',A',B',hf2,hk',hAB,hS',hkp,hov,hp⟩
 ·have l0:((0:Nat):Int)<1:=by decide
  simp (disch:=first|assumption|omega|(simp only [List.length_append,List.length_cons,List.length_nil];omega)) only [go_sem,hf,l0]
  refine (sqdrop_two h1 hs ht hS hi htot (by omega)).mono ?_
  rintro w s3 ⟨rfl,k',pg',T',M',A',B',hk',hAB,hS',hp3⟩
  simp (disch:=first|assumption|omega|(simp only [List.length_append,List.length_cons,List.length_nil];omega)) only [go_sem,hf,hf2]
  refine (OwnR.nil base base .u64).appsP (l2 := [x]) hp3 (Kept.refl base) h.ck (by simp) (by simp) fun v σ' B' hp4 hk4 _ _ ho4=>?_
  rw [List.nil_append] at ho4
  simp (disch:=first|assumption|omega|(simp only [List.length_append,List.length_cons,List.length_nil];omega)) only [go_sem,hf]
  refine ⟨1,by omega,?_⟩
  rw [hJ]
  refine ⟨?_,.inr ⟨rfl,v,B',k',pg',T',M',A',_,?_,hk',hAB,hS',hk4,ho4,hp4⟩⟩
  ·simp (disch:=first|assumption|omega|(simp only [List.length_append,List.length_cons,List.length_nil];omega)) only [go_sem,hf]
  ·simp (disch:=first|assumption|omega|(simp only [List.length_append,List.length_cons,List.length_nil];omega)) only [go_sem]
 ·have l1:¬ ((1:Nat):Int)<1:=by decide
  have hcv:=hov.cell
  have hlv:lenC v=some (.int .i64 1):=hov.len
  obtain ⟨X,c,R,rfl,hX1,hX2,hX3⟩:=hov.resolve_left fun q=>by cases q.2
  have hlx : [x].length=1:=rfl
  rw [hlx] at hf2 hlv
  simp (disch:=first|assumption|omega|(simp only [List.length_append,List.length_cons,List.length_nil];omega)) only [go_sem,hf,hf2,l1,hlv]
  obtain ⟨J2,hJ2⟩:∃ J:Nat->AFr->ASt->Prop,J=fun q a2 s4=>(a2 0 = .ptr s 0/\a2 3 = .int .i64 j/\a2 71 = .msl X 0 1 c/\a2 72 = .int .i64 1/\a2 73 = .int .i64 q)/\(q=0/\s4=s2\/q=1/\∃ (k':Nat) (pg':Pgs) (T':Nat->Prop) (M':Nat->Option Nat) (A' B':List Nat),k'<=k+16/\A'++B'=insL (delL (A++B) i) j x/\SqTwo pg' root troot T' M' a b A' B'/\PoolAt base s4 p m k' pg'):=⟨_,rfl⟩
  refine wp_loop_on J2 (fun i=>2-i) 0 ?_ ?_
  ·rw [hJ2]
   refine ⟨?_,.inl ⟨rfl,rfl⟩⟩
   simp (disch:=first|assumption|omega|(simp only [List.length_append,List.length_cons,List.length_nil];omega)) only [go_sem,hf]
  intro q a2 s4 hj2
  rw [hJ2] at hj2
  obtain ⟨hg,hc2⟩:=hj2
  have hll:A'.length+B'.length=59:=by rw [<-List.length_append,hAB];exact hdlen
  rcases hc2 with ⟨rfl,rfl⟩|⟨rfl,hfin⟩
  ·have l0:((0:Nat):Int)<1:=by decide
   have hX:=hp.at hX1
   have hg0:(kv .u64 [x]++R)[0]? = some (.int .u64 x):=rfl
   have z0:(0:Int).toNat=0:=rfl
   have z00:((0:Nat):Int)=0:=rfl
   have n00:Int.toNat ((0:Nat):Int)=0:=rfl
   have hins:=sqins_two hp (hkp _ _ hs) (hkp _ _ ht) hS' (i:=j) (id:=x) (by omega) hx60 (by rw [hAB];exact hxd) (by omega) (by omega)
   rw [hAB] at hins
   generalize kv .u64 [x]++R=XX at *
   simp (disch:=first|assumption|omega|(simp only [List.length_append,List.length_cons,List.length_nil];omega)) only [go_sem,hg,l0,hX,hg0,z0,z00,n00,Nat.zero_add,Int.add_zero]
   refine hins.mono ?_
   rintro w s5 ⟨rfl,k2,pg2,T2,M2,A2,B2,c1,c2,c3,c4⟩
   simp (disch:=first|assumption|omega|(simp only [List.length_append,List.length_cons,List.length_nil];omega)) only [go_sem,hg]
   refine ⟨1,by omega,?_⟩
   rw [hJ2]
   refine ⟨?_,.inr ⟨rfl,k2,pg2,T2,M2,A2,B2,by omega,c2,c3,c4.less hkp h.ck⟩⟩
   simp (disch:=first|assumption|omega|(simp only [List.length_append,List.length_cons,List.length_nil];omega)) only [go_sem,hg]
  ·have l1:¬ ((1:Nat):Int)<1:=by decide
   simp (disch:=first|assumption|omega|(simp only [List.length_append,List.length_cons,List.length_nil];omega)) only [go_sem,hg,l1]
   rw [hK]
   exact retC_by (.refl _) (.refl _) ⟨rfl,hfin⟩
end
end Go.A
end
