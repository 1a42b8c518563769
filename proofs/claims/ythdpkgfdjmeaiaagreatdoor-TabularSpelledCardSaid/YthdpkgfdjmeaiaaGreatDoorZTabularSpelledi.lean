/- Part 9 of what TabularSpelled leans on: CodePg Pg Ph CodePi Pi Sd CodeSa Sa So CodeSb Sb CodeSc CodeSe Se Sf Sh Ya Yd Ye Yf. -/
import Derived.Test.YthdpkgfdjmeaiaaGreatDoorProg
import Derived.KernelRfl
import Derived.Lib.ValidLaws
import Derived.Lib.Replace
import Derived.Test.YthdpkgfdjmeaiaaGreatDoorZTabularSpelledh
set_option linter.defProp false
set_option linter.unusedSimpArgs false
set_option linter.unusedVariables false
set_option maxRecDepth 100000
namespace Go.A
open Go.Proofs
/-! 139: (*tabular/parse.parser).primary -/
def c139_40:ACode := .cond (.t 11) (.seq (.ops [ oq 14 (.fa 1 (.t 3)),oq 15 (.ld none (.t 14)),oe 16 (.call 30 [(.t 15)]),oq 13 (.mv (.t 16)),oq 17 (.ext 0 (.t 13)),oq 18 (.ext 1 (.t 13)),oq 4 (.mv (.t 17)),oq 5 (.mv (.t 18))]) (.seq (.seq (.ops [ oq 19 (.mv (.t 5)),oq 20 (.un .not (.t 19))]) (.cond (.t 20) (.seq (.ops [ oq 21 (.mv (.t 0)),oe 22 (.call 34 [(.t 21),(.v (.int .i64 10))]),oz (.store 12 (.t 2) (.t 22))]) .ret) .skip)) (.seq (.ops [ oq 23 (.mv (.t 0)),oq 24 (.nc (.t 23)),oq 25 (.fa 1 (.t 24)),oq 26 (.ld none (.t 25)),oq 27 (.bin .add (.t 26) (.v (.int .i64 1))),oq 28 (.nc (.t 23)),oq 29 (.fa 1 (.t 28)),oz (.store 1 (.t 29) (.t 27))]) (.seq (.ops [ oq 30 (.mv (.t 4)),oq 31 (.build [(.int .i64 0),(.int .i64 0),(.str []),(.int .i64 0),(.int .i64 0),(.bool false),(.bool false),(.int .i64 0),(.int .i64 0),(.bool false),(.bool false),(.sl .full [])] [(0,1,(.v (.int .i64 1))),(1,1,(.t 30))]),oz (.store 12 (.t 2) (.t 31))]) .ret)))) (.seq (.ops [ oq 33 (.bin .eql (.t 10) (.v (.int .i64 2))),oq 32 (.mv (.t 33))]) (.cond (.t 32) (.seq (.ops [ oq 34 (.mv (.t 0)),oq 35 (.nc (.t 34)),oq 36 (.fa 1 (.t 35)),oq 37 (.ld none (.t 36)),oq 38 (.bin .add (.t 37) (.v (.int .i64 1))),oq 39 (.nc (.t 34)),oq 40 (.fa 1 (.t 39)),oz (.store 1 (.t 40) (.t 38))]) (.seq (.ops [ oq 41 (.fa 1 (.t 3)),oq 42 (.ld none (.t 41)),oq 43 (.build [(.int .i64 0),(.int .i64 0),(.str []),(.int .i64 0),(.int .i64 0),(.bool false),(.bool false),(.int .i64 0),(.int .i64 0),(.bool false),(.bool false),(.sl .full [])] [(0,1,(.v (.int .i64 2))),(2,1,(.t 42))]),oz (.store 12 (.t 2) (.t 43))]) .ret)) (.seq (.ops [ oq 45 (.bin .eql (.t 10) (.v (.int .i64 5))),oq 44 (.mv (.t 45))]) (.cond (.t 44) (.seq (.ops [ oq 46 (.mv (.t 0)),oq 47 (.nc (.t 46)),oq 48 (.fa 1 (.t 47)),oq 49 (.ld none (.t 48)),oq 50 (.bin .add (.t 49) (.v (.int .i64 1))),oq 51 (.nc (.t 46)),oq 52 (.fa 1 (.t 51)),oz (.store 1 (.t 52) (.t 50))]) (.seq (.ops [ oq 54 (.fa 1 (.t 3)),oq 55 (.ld none (.t 54)),⟨some 53,none,.e (.call 119 []),[⟨none,.ld none (.t 54),55⟩]⟩,oe 56 (.call 70 [(.t 53),(.t 55)]),oq 57 (.bin .add (.t 56) (.v (.int .i64 1))),oq 58 (.bin .mul (.t 57) (.v (.int .i64 10000))),oq 59 (.build [(.int .i64 0),(.int .i64 0),(.str []),(.int .i64 0),(.int .i64 0),(.bool false),(.bool false),(.int .i64 0),(.int .i64 0),(.bool false),(.bool false),(.sl .full [])] [(0,1,(.v (.int .i64 4))),(1,1,(.t 58))]),oz (.store 12 (.t 2) (.t 59))]) .ret)) (.seq (.ops [ oq 61 (.bin .eql (.t 10) (.v (.int .i64 4))),oq 60 (.mv (.t 61))]) (.cond (.t 60) (.seq (.ops [ oq 62 (.mv (.t 0)),oe 63 (.call 158 [(.t 62)]),oz (.store 12 (.t 2) (.t 63))]) .ret) (.seq (.ops [ oq 65 (.bin .eql (.t 10) (.v (.int .i64 3))),oq 64 (.mv (.t 65))]) (.cond (.t 64) (.seq (.ops [ oq 66 (.mv (.t 0)),oq 67 (.ld (some 4) (.t 3)),oe 68 (.call 159 [(.t 66),(.t 67)]),oz (.store 12 (.t 2) (.t 68))]) .ret) .skip))))))))
def c139_60:ACode := .seq (.ops [ oq 89 (.mv (.t 0)),oe 90 (.call 32 [(.t 89),(.v (.int .i64 0))]),oe 6 (.alloc [(.int .i64 0),(.int .i64 0),(.str []),(.int .i64 0),(.int .i64 0),(.bool false),(.bool false),(.int .i64 0),(.int .i64 0),(.bool false),(.bool false),(.sl .full [])]),oz (.store 12 (.t 6) (.t 90))]) (.seq (.ops [ oq 91 (.mv (.t 0)),oe 92 (.call 160 [(.t 91),(.v (.str [41]))])]) (.seq (.ops [ oq 93 (.ld (some 12) (.t 6)),oz (.store 12 (.t 2) (.t 93))]) .ret))
def c139_64:ACode := .seq (.seq (.ops [ oq 69 (.mv (.t 0)),oe 70 (.call 109 [(.t 69),(.v (.str [40]))]),oq 71 (.un .not (.t 70))]) (.cond (.t 71) (.seq (.ops [ oq 72 (.mv (.t 0)),oe 73 (.call 34 [(.t 72),(.v (.int .i64 10))]),oz (.store 12 (.t 2) (.t 73))]) .ret) .skip)) (.seq (.ops [ oq 74 (.mv (.t 0)),oe 75 (.call 111 [(.t 74)])]) (.dfr 112 (.t 0) 76 (.seq (.seq (.ops [ oq 77 (.mv (.t 0)),oq 78 (.nc (.t 77)),oq 79 (.fa 3 (.t 78)),oq 80 (.ld none (.t 79)),oq 81 (.bin .eql (.t 80) (.v (.int .i64 0)))]) (.cond (.t 81) (.ops [ oq 82 (.mv (.t 0)),oq 83 (.nc (.t 82)),oq 84 (.fa 1 (.t 83)),oq 85 (.ld none (.t 84)),oq 86 (.bin .add (.t 85) (.v (.int .i64 1))),oq 87 (.nc (.t 82)),oq 88 (.fa 1 (.t 87)),oz (.store 1 (.t 88) (.t 86))]) .skip)) c139_60)))
def c139_66:ACode := .seq (.ops [ oe 2 (.alloc [(.int .i64 0),(.int .i64 0),(.str []),(.int .i64 0),(.int .i64 0),(.bool false),(.bool false),(.int .i64 0),(.int .i64 0),(.bool false),(.bool false),(.sl .full [])])]) (.seq (.seq (.ops [ oq 7 (.mv (.t 0)),oe 8 (.call 33 [(.t 7)]),oe 3 (.alloc [(.int .i64 0),(.str []),(.int .i64 0),(.int .i64 0)]),oz (.store 4 (.t 3) (.t 8))]) (.seq (.ops [ oq 9 (.fa 0 (.t 3)),oq 10 (.ld none (.t 9))]) (.block 0 (.seq (.ops [ oq 12 (.bin .eql (.t 10) (.v (.int .i64 1))),oq 11 (.mv (.t 12))]) c139_40)))) c139_64)
@[go_sem] def c139_40_wp:=wp_of c139_40.eq_1
@[go_sem] def c139_60_wp:=wp_of c139_60.eq_1
@[go_sem] def c139_64_wp:=wp_of c139_64.eq_1
@[go_sem] def c139_66_wp:=wp_of c139_66.eq_1
def c139:AFn:=⟨94,[.c 2 (some 12)],c139_66⟩
theorem c139_ok:compF Tryz.prog Tryz.f139=some c139:=by kernel_rfl
theorem a139 {args:List AV} {σ:ASt} {R:AV->ASt->Prop} (hl:args.length<=94) (h:c139_66.wp Tryz.prog (RetQ [.c 2 (some 12)] R) (init args) σ):ACalls Tryz.prog 139 args σ R:=acalls_of Tryz.func139 c139_ok hl h
end Go.A
namespace Go.A
open Go.Proofs Go.Lib
set_option maxHeartbeats 8000000 in
theorem prim_walk {T:List Tok} (hT:TokOk T) (f:Nat) (ih:∀ f',f'<f+1->WalkF T f') (b:Nat) (s:PSt) (r:Nd×PSt) (h:primP T (f+1) s=some r) (hf:Fit T s) (σ:ASt) (hV:LV σ) (hb:σ b=pr T s) :
  ACalls Tryz.prog 139 [.ptr b 0] σ fun v σ'=>v=r.1.av/\σ'=σ.set b (pr T r.2):=by
 rw [primP] at h
 have hwent:=wentF hT.ends
 have hlen:=hT.len
 have hil:=hf.i
 have hpr:∀ x:PSt,pr T x=some (.obj [.sl .shr (T.map tokAV),.int .i64 x.i,.int .i64 x.deep,.int .i64 x.err,.int .i64 x.bad]):=fun x=>rfl
 have hpn:some (Role.obj [.sl .shr (T.map tokAV),.int .i64 ((s.i:Int)+1),.int .i64 s.deep,.int .i64 s.err,.int .i64 s.bad])=pr T s.next:=rfl
 have htx:=hT.cur s
 have hD:=dparse_ok (curT T s).text htx
 have hE:=tenames_ok
 have hix:=strindex_ok errL (curT T s).text (by decide)
 have hrg:=idxS_rng (curT T s).text errL 0
 have hel:errL.length=7:=rfl
 have hidx:idxP errL (curT T s).text=idxS (curT T s).text errL 0:=rfl
 have hAr:=fun hk τ hh=>area_walk hT b s hf hk τ hh
 have hNa:=fun hk r hr τ hv hh=>(ih f (by omega)).name b s r hr hf hk τ hv hh
 refine a139 (by simp) ?_
 simp (disch:=first|assumption|omega) only [go_sem]
 refine allocC_by fun d hd=>?_
 obtain ⟨hbd,T2,S2⟩:=St2.of hd (pr_fix hb).1 (pr_fix hb).2
 rw [S2.one,hb]
 have q1:=S2.a1
 have hcu:=fun X=>pcur_ok (T:=T) hf.i (q1 (pr T s) X)
 have htv:tokAV (curT T s) = .agg [.int .i64 (curT T s).kind,.str (curT T s).text,.int .i64 (curT T s).at',.int .i64 (curT T s).col]:=rfl
 rw [htv] at hcu
 rw [htv] at hNa
 generalize hct:curT T s=tk at *
 simp (disch:=first|assumption|omega) only [go_sem,reduceCtorEq,↓reduceIte]
 refine (hcu _).mono ?_
 rintro v σ1 ⟨rfl,rfl⟩
 simp (disch:=first|assumption|omega) only [go_sem]
 refine allocC_by fun e he=>?_
 obtain ⟨hbe,hde,T3,S3⟩:=St3.of S2 (X0 := .obj _) he
 have ab:=S3.ab
 have k3:=S3.s3
 have k2:=S3.s2
 have k1:=S3.s1
 have w3:=S3.a3
 have w2:=S3.a2
 have w1:=S3.a1
 have V3:∀ X Y Z,LV (T3 X Y Z):=fun X Y Z=>S3.fix _ _ _ _ _ hV
 have hDr:=S3.drop
 have v1:=fun Y Z=>w1 (pr T s) Y Z
 rw [hpr s] at v1
 have hfl:=fun τ hh=>pfail_ok (T:=T) (s:=s) hf.i 10 (σ:=τ) (b:=b) hh
 obtain ⟨F,hF⟩:∃ F,F=ACode.wp Tryz.prog c139_64:=⟨_,rfl⟩
 simp (disch:=first|assumption|omega) only [go_sem,Nat.reduceEqDiff,Nat.reduceAdd,Nat.reduceLeDiff,↓reduceIte,Bool.true_and,ab,k3,w3,←hF]
 by_cases c1:tk.kind=1
 ·rw [if_pos c1] at h
  cases hp:parseD tk.text with
  | none=>
    rw [hp] at h hD
    injection h with h
    subst h
    have hD':Pure Tryz.prog 30 [.str tk.text] (.tuple [.int .i64 0,.bool false]):=hD
    simp (disch:=first|assumption|omega) only [go_sem,Nat.reduceEqDiff,↓reduceIte,c1,w3]
    refine hD'.use ?_
    simp (disch:=first|assumption|omega) only [go_sem,reduceCtorEq,Nat.reduceEqDiff,↓reduceIte]
    refine (hfl _ (w1 _ _ _)).mono ?_
    rintro v σ1 ⟨rfl,rfl⟩
    rw [k1,zN_av,zN_cells]
    simp (disch:=first|assumption|omega) only [go_sem,Nat.reduceEqDiff,Nat.reduceAdd,Nat.reduceLeDiff,↓reduceIte,Bool.true_and,w2,k2]
    exact retC_by (hDr _ _ _) (.refl _) ⟨rfl,rfl⟩
  | some v=>
    rw [hp] at h hD
    injection h with h
    subst h
    have hD':Pure Tryz.prog 30 [.str tk.text] (.tuple [.int .i64 v,.bool true]):=hD
    simp (disch:=first|assumption|omega) only [go_sem,Nat.reduceEqDiff,↓reduceIte,c1,w3]
    refine hD'.use ?_
    rw [hpr s]
    simp (disch:=first|assumption|omega) only [go_sem,reduceCtorEq,Nat.reduceEqDiff,Nat.reduceAdd,Nat.reduceLeDiff,↓reduceIte,Bool.true_and,v1,k1]
    rw [hpn]
    simp (disch:=first|assumption|omega) only [go_sem,Nat.reduceEqDiff,Nat.reduceAdd,Nat.reduceLeDiff,↓reduceIte,Bool.true_and,w2,k2]
    rw [Nd.av_cs]
    exact retC_by (hDr _ _ _) (fzN 1 v [] .zero .zero _ _) ⟨rfl,rfl⟩
 rw [if_neg c1] at h
 by_cases c2:tk.kind=2
 ·rw [if_pos c2] at h
  injection h with h
  subst h
  rw [hpr s]
  simp (disch:=first|assumption|omega) only [go_sem,reduceCtorEq,Nat.reduceEqDiff,Nat.reduceAdd,Nat.reduceLeDiff,Int.reduceEq,↓reduceIte,Bool.true_and,c2,w3,v1,k1]
  rw [hpn]
  simp (disch:=first|assumption|omega) only [go_sem,Nat.reduceEqDiff,Nat.reduceAdd,Nat.reduceLeDiff,↓reduceIte,Bool.true_and,w2,k2]
  rw [Nd.av_cs]
  exact retC_by (hDr _ _ _) (fzN 2 0 tk.text .zero .zero _ _) ⟨rfl,rfl⟩
 rw [if_neg c2] at h
 by_cases c5:tk.kind=5
 ·rw [if_pos c5] at h
  injection h with h
  subst h
  rw [hidx] at hix ⊢
  generalize idxS tk.text errL 0=q at *
  rw [hpr s]
  simp (disch:=first|assumption|omega) only [go_sem,reduceCtorEq,Nat.reduceEqDiff,Nat.reduceAdd,Nat.reduceLeDiff,Int.reduceEq,↓reduceIte,Bool.true_and,c5,w3,v1,k1]
  rw [hpn]
  refine hE.use ?_
  simp (disch:=first|assumption|omega) only [go_sem,Nat.reduceEqDiff,↓reduceIte,w3]
  refine hix.use ?_
  simp (disch:=first|assumption|omega) only [go_sem,Nat.reduceEqDiff,Nat.reduceAdd,Nat.reduceLeDiff,↓reduceIte,Bool.true_and,w2,k2]
  rw [Nd.av_cs]
  exact retC_by (hDr _ _ _) (fzN 4 ((q+1)*10000) [] .zero .zero _ _) ⟨rfl,rfl⟩
 rw [if_neg c5] at h
 by_cases c4:tk.kind=4
 ·rw [if_pos c4] at h
  injection h with h
  subst h
  have hA:=fun Y Z=>hAr c4 _ (w1 (pr T s) Y Z)
  clear hAr hNa
  generalize areaP T s=RA at *
  obtain ⟨n,s'⟩:=RA
  dsimp only at hA ⊢
  obtain ⟨o,m,t,x,y,ks⟩:=n
  simp only [Nd.av_cs] at hA ⊢
  generalize ks.map Nd.av=KL at *
  simp (disch:=first|assumption|omega) only [go_sem,reduceCtorEq,Nat.reduceEqDiff,Int.reduceEq,↓reduceIte,c4]
  refine (hA _ _).mono ?_
  rintro v σ1 ⟨rfl,rfl⟩
  rw [k1]
  simp (disch:=first|assumption|omega) only [go_sem,Nat.reduceEqDiff,Nat.reduceAdd,Nat.reduceLeDiff,↓reduceIte,w2,k2]
  exact retC_by (hDr _ _ _) (.refl _) ⟨rfl,rfl⟩
 rw [if_neg c4] at h
 by_cases c3:tk.kind=3
 ·rw [if_pos c3] at h
  have hA:=fun Y Z=>hNa c3 r h _ (V3 (pr T s) Y Z) (w1 _ _ _)
  obtain ⟨n,s'⟩:=r
  dsimp only at hA ⊢
  obtain ⟨o,m,t,x,y,ks⟩:=n
  simp only [Nd.av_cs] at hA ⊢
  generalize ks.map Nd.av=KL at *
  rw [c3] at hA
  simp (disch:=first|assumption|omega) only [go_sem,reduceCtorEq,Nat.reduceEqDiff,Nat.reduceAdd,Nat.reduceLeDiff,Int.reduceEq,↓reduceIte,c3,w3]
  refine (hA _ _).mono ?_
  rintro v σ1 ⟨rfl,rfl⟩
  rw [k1]
  simp (disch:=first|assumption|omega) only [go_sem,Nat.reduceEqDiff,Nat.reduceAdd,Nat.reduceLeDiff,↓reduceIte,w2,k2]
  exact retC_by (hDr _ _ _) (.refl _) ⟨rfl,rfl⟩
 rw [if_neg c3] at h
 simp (disch:=first|assumption|omega) only [go_sem,Nat.reduceEqDiff,↓reduceIte,c1,c2,c5,c4,c3]
 rw [hF]
 have hat:=fun Y Z=>pat_ok hf.i [40] (w1 (pr T s) Y Z)
 simp (disch:=first|assumption|omega) only [go_sem,reduceCtorEq,↓reduceIte]
 refine (hat _ _).mono ?_
 rintro v σ1 ⟨rfl,rfl⟩
 by_cases hop:isOp T s [40]=true
 ·rw [if_pos hop] at h
  rw [hop]
  cases h1:betwP T f 0 (stepP1 (enterP T s)) with
  | none=>rw [h1] at h;cases h
  | some r1=>
    rw [h1] at h
    injection h with h
    subst h
    have hk:=isOp_kind hop
    have he0:=cur_err hk
    obtain ⟨e1,e2,e3⟩:=enter_err hT.ends hf he0
    obtain ⟨g1,g2,g3⟩:=enter_fit hT.ends hf hk
    have hw:=(hwent f).betw _ _ _ h1 g1
    have hwm:=Went.must hT.ends hw.fit [41]
    have hen:=fun Y Z=>penter_ok (T:=T) (s:=s) hf.i ⟨hf.d0,by have:=hf.d1;omega⟩ (w1 (pr T s) Y Z)
    have hbe':=fun Y Z=>(ih f (by omega)).betw b 0 _ r1 (by omega) h1 g1 _ (V3 (pr T (stepP1 (enterP T s))) Y Z) (w1 _ _ _)
    rw [show ((0:Nat):Int)=0 from rfl] at hbe'
    have hst:stepP1 (enterP T s)=if (enterP T s).err=0 then (enterP T s).next else enterP T s:=rfl
    generalize hS:stepP1 (enterP T s)=sS at *
    generalize hE2:enterP T s=sE at *
    obtain ⟨n1,s1⟩:=r1
    dsimp only at hbe' hw hwm ⊢
    obtain ⟨o,m,t,x,y,ks⟩:=n1
    simp only [Nd.av_cs] at hbe' ⊢
    generalize ks.map Nd.av=KL at *
    simp (disch:=first|assumption|omega) only [go_sem,reduceCtorEq,↓reduceIte]
    refine (hen _ _).mono ?_
    rintro v σ1 ⟨rfl,rfl⟩
    rw [k1]
    have hpE:some (Role.obj [.sl .shr (T.map tokAV),.int .i64 ((sE.i:Int)+1),.int .i64 sE.deep,.int .i64 sE.err,.int .i64 sE.bad])=pr T sE.next:=rfl
    have hmu:=fun τ hh=>pmust_ok hT.ends hw.fit hT.len [41] (σ:=τ) (b:=b) hh
    have hlv:=fun τ hh=>pleave_ok (T:=T) (s:=mustP T s1 [41]) ⟨hwm.fit.d0,by have:=hwm.fit.d1;omega⟩ (σ:=τ) (b:=b) hh
    have tail:∀ a1:AFr,(a1 0 = .ptr b 0/\a1 2 = .ptr d 0)->ACode.wp Tryz.prog c139_60 (DfrQ Tryz.prog 112 (.ptr b 0) (RetQ [.c 2 (some 12)] fun v σ'=>v = .agg (Nd.cs o m t x y KL)/\σ'=σ.set b (pr T (leaveP (mustP T s1 [41]))))) a1 (T3 (pr T sS) (some (.obj zero12)) (some (.obj [.int .i64 tk.kind,.str tk.text,.int .i64 tk.at',.int .i64 tk.col]))):=by
     intro a1 hf1
     unfold zero12
     simp (disch:=first|assumption|omega) only [go_sem,↓reduceIte,hf1]
     refine (hbe' _ _).mono ?_
     rintro v σ1 ⟨rfl,rfl⟩
     rw [k1]
     simp (disch:=first|assumption|omega) only [go_sem]
     refine allocC_by fun g hg=>?_
     obtain ⟨T4,S4⟩:=St4.of S3 (X0 := .obj _) hg
     have ab4:=S4.ab
     have m1:=S4.s1
     have m2:=S4.s2
     have m4:=S4.s4
     have p1:=S4.a1
     have p2:=S4.a2
     have p4:=S4.a4
     simp (disch:=first|assumption|omega) only [go_sem,reduceCtorEq,Nat.reduceEqDiff,Nat.reduceAdd,Nat.reduceLeDiff,↓reduceIte,hf1,ab4,m4,p4]
     refine (hmu _ (p1 _ _ _ _)).mono ?_
     rintro v σ1 ⟨rfl,rfl⟩
     rw [m1]
     simp (disch:=first|assumption|omega) only [go_sem,Nat.reduceEqDiff,Nat.reduceAdd,Nat.reduceLeDiff,↓reduceIte,hf1,p4,p2,m2]
     refine (hlv _ (p1 _ _ _ _)).mono ?_
     rintro v σ1 ⟨rfl,rfl⟩
     rw [m1]
     simp (disch:=first|assumption|omega) only [go_sem,Nat.reduceLeDiff,↓reduceIte,p2]
     exact retC_by (S4.drop _ _ _ _) (.refl _) ⟨rfl,rfl⟩
    obtain ⟨G,hG⟩:∃ G,G=ACode.wp Tryz.prog c139_60:=⟨_,rfl⟩
    rw [<-hG] at tail
    unfold zero12 at tail
    by_cases hee:sE.err=0
    ·rw [if_pos hee] at hst
     subst hst
     have hEi:(sE.i:Int)<=1000000:=by omega
     have x1:=fun Y Z=>w1 (pr T sE) Y Z
     rw [hpr sE,hee] at x1
     rw [hee] at hpE
     rw [hpr sE,hee]
     simp (disch:=first|assumption|omega) only [go_sem,reduceCtorEq,Nat.reduceEqDiff,Nat.reduceAdd,Nat.reduceLeDiff,↓reduceIte,Bool.true_and,x1,k1,←hG]
     rw [hpE]
     refine tail _ ?_
     simp (disch:=first|assumption|omega) only [go_sem,reduceCtorEq,Nat.reduceEqDiff,↓reduceIte]
    ·rw [if_neg hee] at hst
     subst hst
     have x1:∀ Y Z,T3 (pr T sS) Y Z b=some (.obj [.sl .shr (T.map tokAV),.int .i64 sS.i,.int .i64 sS.deep,.int .i64 sS.err,.int .i64 sS.bad]):=fun Y Z=>w1 _ _ _
     simp (disch:=first|assumption|omega) only [go_sem,reduceCtorEq,↓reduceIte,x1,hee,←hG]
     refine tail _ ?_
     simp (disch:=first|assumption|omega) only [go_sem,reduceCtorEq,Nat.reduceEqDiff,↓reduceIte]
 ·rw [if_neg hop] at h
  injection h with h
  subst h
  have hop':isOp T s [40]=false:=by simpa using hop
  rw [hop']
  simp (disch:=first|assumption|omega) only [go_sem,reduceCtorEq,↓reduceIte]
  refine (hfl _ (w1 _ _ _)).mono ?_
  rintro v σ1 ⟨rfl,rfl⟩
  rw [k1,zN_av,zN_cells]
  simp (disch:=first|assumption|omega) only [go_sem,Nat.reduceEqDiff,Nat.reduceAdd,Nat.reduceLeDiff,↓reduceIte,Bool.true_and,w2,k2]
  exact retC_by (hDr _ _ _) (.refl _) ⟨rfl,rfl⟩
theorem walkF {T:List Tok} (hT:TokOk T):∀ f,WalkF T f:=by
 intro f
 induction f using Nat.strongRecOn with
 | _ f ih=>
 cases f with
 | zero=>
   constructor
   all_goals intros
   all_goals first
    | (rename_i h _ _ _ _;simp only [betwP,signedP,hundredP,primP,argsP,reduceCtorEq] at h)
    | (rename_i h _ _ _ _ _;simp only [nameP,reduceCtorEq] at h)
 | succ f=>
   exact ⟨fun b lvl s r hl h hf σ hV hb=>betw_walk hT f ih b lvl s r hl h hf σ hV hb,fun b s r h hf σ hV hb=>signed_walk hT f ih b s r h hf σ hV hb,
    fun b s r h hf σ hV hb=>hundred_walk hT f ih b s r h hf σ hV hb,fun b s r h hf σ hV hb=>prim_walk hT f ih b s r h hf σ hV hb,
    fun b s r h hf hk σ hV hb=>name_walk hT f ih b s r h hf hk σ hV hb,fun b s r h hf σ hV hb=>args_walk hT f ih b s r h hf σ hV hb⟩
end Go.A
namespace Go.A
open Go.Proofs Go.Lib
def Mz (T:List Tok) (s:PSt):Nat:=if s.err=0 then T.length-s.i else 0
section
variable {T:List Tok}
theorem Mz_next {s:PSt} (hT:Ends T) (hf:Fit T s) (hk:(curT T s).kind≠0):Mz T s.next+1<=Mz T s:=by
 have h0:=cur_err hk
 have hi:=hf.i
 unfold Mz
 rw [if_pos h0,if_pos (show s.next.err=0 from h0)]
 show T.length-(s.i+1)+1<=_
 omega
theorem Mz_went {s s':PSt} (h:Went T s s'):Mz T s'<=Mz T s:=by
 have hl:=h.le
 unfold Mz
 by_cases h0:s.err=0
 ·rw [if_pos h0]
  split<;>omega
 ·rw [if_neg h0,if_neg (by rw [(h.err h0).1];exact h0)]
  exact Nat.le_refl _
theorem Mz_enter {s:PSt} (hT:Ends T) (hf:Fit T s) (hk:(curT T s).kind≠0):Mz T (stepP1 (enterP T s))+1<=Mz T s:=by
 have h0:=cur_err hk
 have hi:=hf.i
 obtain ⟨e1,e2,e3⟩:=enter_err hT hf h0
 unfold stepP1
 unfold Mz
 rw [if_pos h0]
 by_cases he:(enterP T s).err=0
 ·rw [if_pos he,if_pos (show (enterP T s).next.err=0 from he)]
  show T.length-((enterP T s).i+1)+1<=_
  omega
 ·rw [if_neg he,if_neg he]
  omega
structure SuffF (T:List Tok) (f:Nat):Prop where
 betw:∀ lvl s,lvl<=5->Fit T s->30*Mz T s+20<=f+lvl->∃ r,betwP T f lvl s=some r
 loop:∀ lvl n s,lvl<5->Fit T s->30*Mz T s+1<=f->∃ r,loopP T f lvl n s=some r
 signed:∀ s,Fit T s->30*Mz T s+14<=f->∃ r,signedP T f s=some r
 hundred:∀ s,Fit T s->30*Mz T s+13<=f->∃ r,hundredP T f s=some r
 hloop:∀ n s,Fit T s->30*Mz T s+1<=f->∃ r,hloopP T f n s=some r
 prim:∀ s,Fit T s->30*Mz T s+12<=f->∃ r,primP T f s=some r
 name:∀ s,Fit T s->(curT T s).kind=3->30*Mz T s+11<=f->∃ r,nameP T f s=some r
 args:∀ s,Fit T s->30*Mz T s+25<=f->∃ r,argsP T f s=some r
 aloop:∀ l s,Fit T s->30*Mz T s+24<=f->∃ r,aloopP T f l s=some r
theorem suffF (hT:Ends T):∀ f,SuffF T f
 | 0=>by
   constructor
   all_goals intros
   all_goals (exfalso;omega)
 | f+1=>by
   have ih:=suffF hT f
   have hwent:=wentF hT f
   constructor
   ·intro lvl s hl hf hm
    rw [betwP]
    split
    ·exact ih.signed s hf (by omega)
    ·obtain ⟨r,hr⟩:=ih.betw (lvl+1) s (by omega) hf (by omega)
     rw [hr]
     have hw:=hwent.betw _ _ _ hr hf
     have hz:=Mz_went hw
     exact ih.loop lvl _ _ (by omega) hw.fit (by omega)
   ·intro lvl n s hl hf hm
    rw [loopP]
    split
    ·rename_i hk
     have hz:=Mz_next hT hf (sgn_kind hk)
     have hn:=(hf.next hT (sgn_kind hk)).1
     obtain ⟨r,hr⟩:=ih.betw (lvl+1) s.next (by omega) hn (by omega)
     rw [hr]
     have hw:=hwent.betw _ _ _ hr hn
     have hz2:=Mz_went hw
     exact ih.loop lvl _ _ hl hw.fit (by omega)
    ·exact ⟨_,rfl⟩
   ·intro s hf hm
    rw [signedP]
    split
    ·rename_i hk
     have hz:=Mz_enter hT hf (isOp_kind hk)
     obtain ⟨r,hr⟩:=ih.signed _ (enter_fit hT hf (isOp_kind hk)).1 (by omega)
     rw [hr]
     exact ⟨_,rfl⟩
    split
    ·rename_i hk
     have hz:=Mz_enter hT hf (isOp_kind hk)
     obtain ⟨r,hr⟩:=ih.signed _ (enter_fit hT hf (isOp_kind hk)).1 (by omega)
     rw [hr]
     exact ⟨_,rfl⟩
    ·exact ih.hundred s hf (by omega)
   ·intro s hf hm
    rw [hundredP]
    obtain ⟨r,hr⟩:=ih.prim s hf (by omega)
    rw [hr]
    have hw:=hwent.prim _ _ hr hf
    have hz:=Mz_went hw
    exact ih.hloop _ _ hw.fit (by omega)
   ·intro n s hf hm
    rw [hloopP]
    split
    ·rename_i hk
     have hz:=Mz_next hT hf (isOp_kind hk)
     exact ih.hloop _ _ (hf.next hT (isOp_kind hk)).1 (by omega)
    ·exact ⟨_,rfl⟩
   ·intro s hf hm
    rw [primP]
    split
    ·split<;>exact ⟨_,rfl⟩
    split
    ·exact ⟨_,rfl⟩
    split
    ·exact ⟨_,rfl⟩
    split
    ·exact ⟨_,rfl⟩
    split
    ·rename_i hk
     exact ih.name s hf hk (by omega)
    split
    ·rename_i hk
     have hz:=Mz_enter hT hf (isOp_kind hk)
     obtain ⟨r,hr⟩:=ih.betw 0 _ (by omega) (enter_fit hT hf (isOp_kind hk)).1 (by omega)
     rw [hr]
     exact ⟨_,rfl⟩
    ·exact ⟨_,rfl⟩
   ·intro s hf hk hm
    have h0:s.err=0:=cur_err (T:=T) (by omega)
    have hn:=hf.next hT (by omega)
    rw [nameP]
    split
    ·rename_i hp
     split
     ·exact ⟨_,rfl⟩
     ·rename_i he
      obtain ⟨g1,g2,g3,g5⟩:=enter2 hT hf (by omega) (by simpa using he)
      have hl:=hT.more (s.i+1) hn.1.i (by omega)
      have g4:Fit T (enterP T s).next.next:=⟨by show (enterP T s).i+1+1<_;omega,g1.d0,g1.d1,g1.d2⟩
      have hz:Mz T (enterP T s).next.next+1<=Mz T s:=by
       have hi:=hf.i
       have he':(enterP T s).err=0:=by simpa using he
       unfold Mz
       rw [if_pos h0,if_pos (show (enterP T s).next.next.err=0 from he')]
       show T.length-((enterP T s).i+1+1)+1<=_
       omega
      obtain ⟨r,hr⟩:=ih.args _ g4 (by omega)
      rw [hr]
      exact ⟨_,rfl⟩
    split
    ·exact ⟨_,rfl⟩
    split<;>exact ⟨_,rfl⟩
   ·intro s hf hm
    rw [argsP]
    split
    ·exact ⟨_,rfl⟩
    ·exact ih.aloop _ s hf (by omega)
   ·intro l s hf hm
    rw [aloopP]
    split
    ·exact ⟨_,rfl⟩
    ·have h1:∃ r,(if isOp T s [44]=true\/isOp T s [41]=true then some (missN,s) else betwP T f 0 s)=some r/\Went T s r.2:=by
      split
      ·exact ⟨_,rfl,Went.refl hf⟩
      ·obtain ⟨r,hr⟩:=ih.betw 0 s (by omega) hf (by omega)
       exact ⟨r,hr,hwent.betw _ _ _ hr hf⟩
     obtain ⟨r,hr,hw⟩:=h1
     rw [hr]
     dsimp only
     split
     ·rename_i hk
      have hz:=Mz_next hT hw.fit (isOp_kind hk)
      have hz2:=Mz_went hw
      exact ih.aloop _ _ (hw.fit.next hT (isOp_kind hk)).1 (by omega)
     ·exact ⟨_,rfl⟩
end
end Go.A
namespace Go.A
open Go.Proofs
/-! 7: tabular/parse.Parse -/
def c7_20:ACode := .seq (.seq (.ops [ oq 32 (.mv (.t 8)),oq 33 (.nc (.t 32)),oq 34 (.fa 3 (.t 33)),oq 35 (.ld none (.t 34)),oq 36 (.bin .neq (.t 35) (.v (.int .i64 0)))]) (.cond (.t 36) (.seq (.ops [ oq 37 (.build [(.int .i64 0),(.int .i64 0),(.str []),(.int .i64 0),(.int .i64 0),(.bool false),(.bool false),(.int .i64 0),(.int .i64 0),(.bool false),(.bool false),(.sl .full [])] []),oq 38 (.mv (.t 8)),oq 39 (.nc (.t 38)),oq 40 (.fa 4 (.t 39)),oq 41 (.ld none (.t 40)),oq 42 (.mv (.t 8)),oq 43 (.nc (.t 42)),oq 44 (.fa 3 (.t 43)),oq 45 (.ld none (.t 44)),⟨none,none,.e (.store 12 (.t 2) (.t 37)),[⟨none,.ld none (.t 40),41⟩,⟨none,.ld none (.t 44),45⟩]⟩,oq 3 (.mv (.t 41)),oq 4 (.mv (.t 45))]) .ret) .skip)) (.seq (.ops [ oq 46 (.ld (some 12) (.t 9)),oz (.store 12 (.t 2) (.t 46)),oq 3 (.mv (.v (.int .i64 0))),oq 4 (.mv (.v (.int .i64 0)))]) .ret)
def c7_26:ACode := .seq (.ops [ oe 2 (.alloc [(.int .i64 0),(.int .i64 0),(.str []),(.int .i64 0),(.int .i64 0),(.bool false),(.bool false),(.int .i64 0),(.int .i64 0),(.bool false),(.bool false),(.sl .full [])]),oq 3 (.mv (.v (.int .i64 0))),oq 4 (.mv (.v (.int .i64 0)))]) (.seq (.ops [ oq 11 (.mv (.t 0)),oe 12 (.call 31 [(.t 11)]),oq 10 (.mv (.t 12)),oq 13 (.ext 0 (.t 10)),oq 14 (.ext 1 (.t 10)),oq 15 (.ext 2 (.t 10)),oq 5 (.mv (.t 13)),oq 6 (.mv (.t 14)),oq 7 (.mv (.t 15))]) (.seq (.seq (.ops [ oq 16 (.mv (.t 7)),oq 17 (.bin .neq (.t 16) (.v (.int .i64 0)))]) (.cond (.t 17) (.seq (.ops [ oq 18 (.build [(.int .i64 0),(.int .i64 0),(.str []),(.int .i64 0),(.int .i64 0),(.bool false),(.bool false),(.int .i64 0),(.int .i64 0),(.bool false),(.bool false),(.sl .full [])] []),oq 19 (.mv (.t 6)),oq 20 (.mv (.t 7)),oz (.store 12 (.t 2) (.t 18)),oq 3 (.mv (.t 19)),oq 4 (.mv (.t 20))]) .ret) .skip)) (.seq (.ops [ oq 21 (.mv (.t 5)),oq 22 (.build [(.sl .full []),(.int .i64 0),(.int .i64 0),(.int .i64 0),(.int .i64 0)] [(0,1,(.t 21))]),oe 23 (.box (.t 22)),oq 8 (.mv (.t 23))]) (.seq (.ops [ oq 24 (.mv (.t 8)),oe 25 (.call 32 [(.t 24),(.v (.int .i64 0))]),oe 9 (.alloc [(.int .i64 0),(.int .i64 0),(.str []),(.int .i64 0),(.int .i64 0),(.bool false),(.bool false),(.int .i64 0),(.int .i64 0),(.bool false),(.bool false),(.sl .full [])]),oz (.store 12 (.t 9) (.t 25))]) (.seq (.seq (.ops [ oq 26 (.mv (.t 8)),oe 27 (.call 33 [(.t 26)]),oq 28 (.fld 0 none (.t 27)),oq 29 (.bin .neq (.t 28) (.v (.int .i64 0)))]) (.cond (.t 29) (.ops [ oq 30 (.mv (.t 8)),oe 31 (.call 34 [(.t 30),(.v (.int .i64 10))])]) .skip)) c7_20)))))
@[go_sem] def c7_20_wp:=wp_of c7_20.eq_1
@[go_sem] def c7_26_wp:=wp_of c7_26.eq_1
def c7:AFn:=⟨47,[.c 2 (some 12),.t 3,.t 4],c7_26⟩
theorem c7_ok:compF Tryz.prog Tryz.f7=some c7:=by kernel_rfl
theorem a7 {args:List AV} {σ:ASt} {R:AV->ASt->Prop} (hl:args.length<=47) (h:c7_26.wp Tryz.prog (RetQ [.c 2 (some 12),.t 3,.t 4] R) (init args) σ):ACalls Tryz.prog 7 args σ R:=acalls_of Tryz.func7 c7_ok hl h
end Go.A
namespace Go.A
open Go.Proofs Go.Lib
structure TokGd (t:Tok):Prop where
 k1:1<=t.kind
 k6:t.kind<=6
 len:t.text.length<=8100
 num:t.kind=1->numB t.text=true
 ref:t.kind=4->∃ w,refB w=true/\t.text=greatP w
 err:t.kind=5->t.text∈errTexts
 nam:t.kind=3->t.text ≠ []
theorem TokGd.of {kd:Int} {t:List UInt8} {a c:Nat} (h1:1<=kd) (h6:kd<=6) (hl:t.length<=8100) (hn:kd=1->numB t=true) (hr:kd=4->∃ w,refB w=true/\t=greatP w) (he:kd=5->t∈errTexts) (hm:kd=3->t ≠ []):TokGd ⟨kd,t,a,c⟩:=⟨h1,h6,hl,hn,hr,he,hm⟩
theorem no1 {p:Prop} {a b:Int} (h:a=b) (hn:decide (a=b)=false):p:=absurd h (of_decide_eq_false hn)
theorem quotedF_len:∀ (k:Nat) (r:List UInt8) (p:Nat) (acc:List UInt8) kd t n,quotedF k r p acc = .tok kd t n->kd=2/\t.length<=acc.length+4*r.length
 | 0,r,p,acc,kd,t,n,h=>by simp [quotedF] at h
 | k+1,r,p,acc,kd,t,n,h=>by
   by_cases hr:r = []
   ·subst hr;rw [quotedF_nil] at h;simp at h
   have hw:=decodeL_width r
   have hle:=decodeL_le r hr
   unfold quotedF at h
   rw [if_neg hr] at h
   split at h
   ·simp at h
   split at h
   ·have:=quotedF_len k _ _ _ kd t n h
    have he:=enc_le ((decodeL r).1:Int)
    rw [List.length_append,List.length_drop] at this
    exact ⟨this.1,by omega⟩
   split at h
   ·rename_i h1 h2 h3
    have hl2:=(List.getElem?_eq_some_iff.1 h3).1
    have:=quotedF_len k _ _ _ kd t n h
    rw [List.length_append,List.length_drop] at this
    simp only [List.length_cons,List.length_nil] at this
    exact ⟨this.1,by omega⟩
   ·simp only [Step.tok.injEq] at h
    obtain ⟨rfl,rfl,rfl⟩:=h
    exact ⟨rfl,by omega⟩
theorem failS_gd (r:List UInt8):∀ (es:List (List UInt8)) kd t n,failS r es = .tok kd t n->kd=5/\t∈es
 | [],kd,t,n,h=>by simp [failS] at h
 | e::es,kd,t,n,h=>by
   unfold failS at h
   split at h
   ·simp only [Step.tok.injEq] at h
    obtain ⟨rfl,rfl,rfl⟩:=h
    exact ⟨rfl,by simp⟩
   ·obtain ⟨h1,h2⟩:=failS_gd r es kd t n h
    exact ⟨h1,by simp [h2]⟩
theorem greatP_len (l:List UInt8):(greatP l).length=l.length:=by unfold greatP;simp
theorem greatP_ne {l:List UInt8} (h:l ≠ []):greatP l ≠ []:=fun e=>h (List.eq_nil_of_length_eq_zero (by rw [<-greatP_len,e];rfl))
theorem nameB_ne {l:List UInt8} (h:nameB l=true):l ≠ []:=by
 unfold nameB at h
 simp only [Bool.and_eq_true,decide_eq_true_eq] at h
 exact h.1.1
theorem alikeP_len (c:Int):(alikeP c).length<=2:=by
 unfold alikeP
 repeat' split
 all_goals decide
theorem stepP_gd (r:List UInt8) (hl:r.length<=2000) {kd:Int} {t:List UInt8} {n:Nat} (h:stepP r = .tok kd t n) (a c:Nat):TokGd ⟨kd,t,a,c⟩:=by
 unfold stepP at h
 dsimp only at h
 split at h
 ·simp at h
 split at h
 ·simp at h
 split at h
 ·unfold wordsS at h
  dsimp only at h
  have hw:(r.take (runL wordB r)).length<=8100:=by rw [List.length_take];omega
  split at h
  ·rename_i hn
   simp only [Step.tok.injEq] at h
   obtain ⟨rfl,rfl,rfl⟩:=h
   exact .of (by decide) (by decide) hw (fun _=>hn) (fun h=>no1 h (by decide)) (fun h=>no1 h (by decide)) (fun h=>no1 h (by decide))
  split at h
  ·rename_i hn
   simp only [Step.tok.injEq] at h
   obtain ⟨rfl,rfl,rfl⟩:=h
   exact .of (by decide) (by decide) (by rw [greatP_len];omega) (fun h=>no1 h (by decide)) (fun _=>⟨_,hn,rfl⟩) (fun h=>no1 h (by decide)) (fun h=>no1 h (by decide))
  split at h
  ·rename_i hn
   simp only [Step.tok.injEq] at h
   obtain ⟨rfl,rfl,rfl⟩:=h
   exact .of (by decide) (by decide) (by rw [greatP_len];omega) (fun h=>no1 h (by decide)) (fun h=>no1 h (by decide)) (fun h=>no1 h (by decide)) (fun _=>greatP_ne (nameB_ne hn))
  ·simp at h
 split at h
 ·obtain ⟨rfl,h2⟩:=quotedF_len _ _ _ _ _ _ _ h
  rw [List.length_drop] at h2
  simp only [List.length_nil] at h2
  exact .of (by decide) (by decide) (by omega) (fun h=>no1 h (by decide)) (fun h=>no1 h (by decide)) (fun h=>no1 h (by decide)) (fun h=>no1 h (by decide))
 split at h
 ·obtain ⟨rfl,h2⟩:=failS_gd _ _ _ _ _ h
  have:=errTexts_len t h2
  exact .of (by decide) (by decide) (by omega) (fun h=>no1 h (by decide)) (fun h=>no1 h (by decide)) (fun _=>h2) (fun h=>no1 h (by decide))
 ·unfold opS at h
  split at h
  ·simp only [Step.tok.injEq] at h
   obtain ⟨rfl,rfl,rfl⟩:=h
   have:=alikeP_len ((decodeL r).1:Int)
   exact .of (by decide) (by decide) (by omega) (fun h=>no1 h (by decide)) (fun h=>no1 h (by decide)) (fun h=>no1 h (by decide)) (fun h=>no1 h (by decide))
  ·split at h
   ·rename_i e he
    simp only [Step.tok.injEq] at h
    obtain ⟨rfl,rfl,rfl⟩:=h
    have:=twos_len e (twoS_fits r _ _ he).1
    exact .of (by decide) (by decide) (by omega) (fun h=>no1 h (by decide)) (fun h=>no1 h (by decide)) (fun h=>no1 h (by decide)) (fun h=>no1 h (by decide))
   ·split at h
    ·simp only [Step.tok.injEq] at h
     obtain ⟨rfl,rfl,rfl⟩:=h
     exact .of (by decide) (by decide) (by rw [List.length_take];omega) (fun h=>no1 h (by decide)) (fun h=>no1 h (by decide)) (fun h=>no1 h (by decide)) (fun h=>no1 h (by decide))
    ·simp at h
theorem lexF_gd:∀ (k:Nat) (r:List UInt8) (a c:Nat) (acc L:List Tok) (x:Nat),r.length<=2000->lexF k r a c acc=(L,x,0)->(∀ t∈acc,TokGd t)->∃ M a' c',L=M ++ [⟨0,[],a',c'⟩]/\(∀ t∈M,TokGd t)/\M.length<=acc.length+r.length
 | 0,r,a,c,acc,L,x,hr,h,hacc=>by simp [lexF] at h
 | k+1,r,a,c,acc,L,x,hr,h,hacc=>by
   rw [lexF] at h
   split at h
   ·simp only [Prod.mk.injEq] at h
    obtain ⟨rfl,_⟩:=h
    exact ⟨acc,a,c,rfl,hacc,by omega⟩
   ·rename_i hne
    have hpos:=List.length_pos_iff.2 hne
    split at h
    ·simp at h
    ·obtain ⟨M,a',c',h1,h2,h3⟩:=lexF_gd k _ _ _ _ _ _ (by rw [List.length_drop];omega) h hacc
     rw [List.length_drop] at h3
     exact ⟨M,a',c',h1,h2,by omega⟩
    ·rename_i kd t n hst
     obtain ⟨f1,f2⟩:=(stepP_fits r hne).2 kd t n hst
     obtain ⟨M,a',c',h1,h2,h3⟩:=lexF_gd k _ _ _ _ _ _ (by rw [List.length_drop];omega) h (fun u hu=>by
      rcases List.mem_append.1 hu with hu|hu
      ·exact hacc u hu
      ·simp at hu;subst hu;exact stepP_gd r hr hst a c)
     rw [List.length_drop,List.length_append,List.length_singleton] at h3
     exact ⟨M,a',c',h1,h2,by omega⟩
theorem lexP_gd {s:List UInt8} (h:(lexP s).2.2=0):∃ M a' c',(lexP s).1=M ++ [⟨0,[],a',c'⟩]/\(∀ t∈M,TokGd t)/\M.length<=2000:=by
 unfold lexP at h ⊢
 split
 ·rename_i hl;rw [if_pos hl] at h;cases h
 ·rename_i hl
  rw [if_neg hl] at h
  obtain ⟨R,hR⟩:∃ R,lexF (s.length+1) s 0 0 []=R:=⟨_,rfl⟩
  rw [hR] at h ⊢
  obtain ⟨L,x,e⟩:=R
  dsimp only at h ⊢
  subst h
  obtain ⟨M,a',c',h1,h2,h3⟩:=lexF_gd _ _ _ _ _ _ _ (by omega) hR (by simp)
  exact ⟨M,a',c',h1,h2,by simp at h3;omega⟩
theorem getD_app_left {M:List Tok} {e:Tok} {i:Nat} (h:i<M.length):(M ++ [e]).getD i endT=M.getD i endT:=by
 rw [List.getD_eq_getElem?_getD,List.getD_eq_getElem?_getD,List.getElem?_append_left h]
theorem getD_mem {M:List Tok} {i:Nat} (h:i<M.length):M.getD i endT∈M:=by
 rw [List.getD_eq_getElem?_getD,List.getElem?_eq_getElem h]
 exact List.getElem_mem h
theorem lex_toks {s:List UInt8} (h:(lexP s).2.2=0):TokOk (lexP s).1/\(lexP s).1.length<=2001/\∀ i,((lexP s).1.getD i endT).kind≠0->TokGd ((lexP s).1.getD i endT):=by
 obtain ⟨M,a',c',h1,h2,h3⟩:=lexP_gd h
 rw [h1]
 have hl:(M ++ [(⟨0,[],a',c'⟩:Tok)]).length=M.length+1:=by simp
 have hlast:(M ++ [(⟨0,[],a',c'⟩:Tok)]).getD M.length endT=⟨0,[],a',c'⟩:=by
  rw [List.getD_eq_getElem?_getD,List.getElem?_append_right (Nat.le_refl _),Nat.sub_self];rfl
 have hout:∀ i,M.length<i->(M ++ [(⟨0,[],a',c'⟩:Tok)]).getD i endT=endT:=fun i hi=>by
  rw [List.getD_eq_getElem?_getD,List.getElem?_eq_none (by rw [hl];omega)];rfl
 have hgd:∀ i,i<M.length->TokGd ((M ++ [(⟨0,[],a',c'⟩:Tok)]).getD i endT):=fun i hi=>by
  rw [getD_app_left hi];exact h2 _ (getD_mem hi)
 refine ⟨⟨⟨by rw [hl];omega,fun i hi=>?_,fun i hi hk=>?_⟩,by rw [hl];omega,fun i=>?_⟩,by rw [hl];omega,fun i hk=>?_⟩
 ·rw [hl] at hi
  obtain rfl:i=M.length:=by omega
  rw [hlast]
 ·rw [hl] at hi ⊢
  rcases Nat.lt_or_ge i M.length with h|h
  ·omega
  ·obtain rfl:i=M.length:=by omega
   rw [hlast] at hk
   exact absurd rfl hk
 ·rcases Nat.lt_trichotomy i M.length with h|h|h
  ·have:=(hgd i h).len;omega
  ·subst h;rw [hlast];simp
  ·rw [hout i h];simp [endT]
 ·rcases Nat.lt_trichotomy i M.length with h|h|h
  ·exact hgd i h
  ·subst h;rw [hlast] at hk;exact absurd rfl hk
  ·rw [hout i h] at hk;exact absurd rfl hk
def st0:PSt:=⟨0,0,0,0⟩
theorem st0_fit {T:List Tok} (h:Ends T):Fit T st0:=⟨h.pos,by decide,by decide,fun _=>by decide⟩
def parseR (s:List UInt8):Nd×Int×Int:=(parseT (30*(lexP s).1.length+30) s).getD (zN,0,0)
theorem betw_some {s:List UInt8} (h:(lexP s).2.2=0):∃ r,betwP (lexP s).1 (30*(lexP s).1.length+30) 0 st0=some r:=by
 obtain ⟨hT,_,_⟩:=lex_toks h
 refine (suffF hT.ends _).betw 0 st0 (by omega) (st0_fit hT.ends) ?_
 unfold Mz
 split
 ·show 30*(_-0)+20<=_
  omega
 ·omega
set_option maxHeartbeats 2000000 in
theorem parseR_ok {σ:ASt} (hU:U8 σ) (hV:LV σ) (s:List UInt8) (hs:s.length<=1000000000):ACalls Tryz.prog 7 [.str s] σ fun v σ'=>v = .tuple [(parseR s).1.av,.int .i64 (parseR s).2.1,.int .i64 (parseR s).2.2]/\σ'=σ:=by
 have hL:=fun (τ:ASt) (h:U8 τ)=>lex_ok h s hs
 obtain ⟨R,hR⟩:∃ R,parseR s=R:=⟨_,rfl⟩
 rw [hR]
 unfold parseR parseT at hR
 have hbs:=betw_some (s:=s)
 have hto:=lex_toks (s:=s)
 obtain ⟨FU,hFU⟩:∃ FU,30*(lexP s).1.length+30=FU:=⟨_,rfl⟩
 rw [hFU] at hR hbs
 generalize lexP s=X at *
 obtain ⟨T,at',er⟩:=X
 dsimp only at *
 have hz:∀ a e:Int,∀ σ σ':ASt,Fz σ σ' (resV [.agg [.int .i64 0,.int .i64 0,.str [],.int .i64 0,.int .i64 0,.bool false,.bool false,.int .i64 0,.int .i64 0,.bool false,.bool false,.sl .full []],.int .i64 a,.int .i64 e]) (.tuple [.agg (Nd.cs 0 0 [] .zero .zero []),.int .i64 a,.int .i64 e]):=fun a e σ σ'=>
  .tuple (.cons (.agg (.cons (.refl _) (.cons (.refl _) (.cons (.refl _) (.cons (.refl _) (.cons (.refl _) (.cons (.refl _) (.cons (.refl _) (.cons (.refl _) (.cons (.refl _) (.cons (.refl _) (.cons (.refl _) (.cons (.sl _ _) .nil))))))))))))) (.cons (.refl _) (.cons (.refl _) .nil)))
 refine a7 (by simp) ?_
 simp (disch:=first|assumption|omega) only [go_sem]
 refine allocC_by fun d hd=>?_
 have hUd:=hU.set hd (r:=some (.obj zero12))
 have hVd:LV (σ.set d (some (.obj zero12))):=by
  unfold LV at hV ⊢
  rw [ASt.set_ne]
  ·exact hV
  ·rintro e;rw [<-e,hV] at hd;cases hd
 unfold zero12 at hUd hVd
 simp (disch:=first|assumption|omega) only [go_sem,reduceCtorEq,↓reduceIte]
 refine (hL _ hUd).mono ?_
 rintro v σ1 ⟨rfl,rfl⟩
 by_cases he:er=0
 ·rw [if_neg (by simp [he])] at hR
  obtain ⟨hT,hTl,_⟩:=hto he
  obtain ⟨r1,hr1⟩:=hbs he
  have hr1':betwP T FU 0 ⟨0,0,0,0⟩=some r1:=hr1
  rw [hr1'] at hR
  have hw:=(wentF hT.ends FU).betw _ _ _ hr1 (st0_fit hT.ends)
  have hwk:=(walkF hT FU).betw
  obtain ⟨n,s1⟩:=r1
  dsimp only at hR hw
  obtain ⟨s2,hs2⟩:∃ s2,(if (curT T s1).kind≠0 then failP T s1 10 else s1)=s2:=⟨_,rfl⟩
  rw [hs2] at hR
  simp (disch:=first|assumption|omega) only [go_sem,Nat.reduceEqDiff,Nat.reduceAdd,Nat.reduceLeDiff,↓reduceIte,he]
  refine boxC_by rfl fun b hb=>?_
  have hbd:b≠d:=by rintro rfl;rw [ASt.set_same] at hb;cases hb
  have hb0:σ b=none:=by rwa [ASt.set_ne hbd] at hb
  have hbp:(σ.set b (pr T st0)) b=pr T st0:=ASt.set_same _ _ _
  have hVb:LV (σ.set b (pr T st0)):=by
   unfold LV at hV ⊢
   rw [ASt.set_ne]
   ·exact hV
   ·rintro e;rw [<-e,hV] at hb0;cases hb0
  obtain ⟨_,T2,S2⟩:=St2.of (σ:=σ.set b (pr T st0)) (b:=b) (d:=d) (by rw [ASt.set_ne (Ne.symm hbd)];exact hd) (pr_fix hbp).1 (pr_fix hbp).2
  have V2:∀ X Y,LV (T2 X Y):=fun X Y=>S2.fix _ _ _ _ hVb
  have hst:∀ Z:Option Role,(σ.set d Z).set b (some (.obj [.sl .shr (T.map tokAV),.int .i64 0,.int .i64 0,.int .i64 0,.int .i64 0]))=T2 (pr T st0) Z:=fun Z=>by
   have:=S2.ba (pr T st0) Z
   rw [<-this,set_swap hbd,ASt.set_set]
   rfl
  have k1:=S2.s1
  have hcb:=fun Y=>hwk b 0 st0 (n,s1) (by omega) hr1 (st0_fit hT.ends) _ (V2 (pr T st0) Y) (S2.a1 _ _)
  rw [show ((0:Nat):Int)=0 from rfl] at hcb
  dsimp only at hcb
  obtain ⟨o,m,t,x,y,ks⟩:=n
  simp only [Nd.av_cs] at hcb
  generalize hKL:ks.map Nd.av=KL at *
  simp (disch:=first|assumption|omega) only [go_sem,↓reduceIte,hst]
  refine (hcb _).mono ?_
  rintro v σ1 ⟨rfl,rfl⟩
  rw [k1]
  simp (disch:=first|assumption|omega) only [go_sem]
  refine allocC_by fun e he2=>?_
  obtain ⟨hbe,hde,T3,S3⟩:=St3.of S2 (X0 := .obj _) he2
  have ab:=S3.ab
  have k3:=S3.s3
  have k2:=S3.s2
  have k1:=S3.s1
  have w3:=S3.a3
  have w2:=S3.a2
  have w1:=S3.a1
  have hDr:∀ X Y Z,Drop (T3 X Y Z) σ:=fun X Y Z=>by
   have h1:=S3.drop X Y Z
   rw [ASt.set_set] at h1
   exact h1.trans (Drop.set hb0)
  have hcu:=fun Y Z=>pcur_ok (T:=T) hw.fit.i (w1 (pr T s1) Y Z)
  have hfl:=fun τ hh=>pfail_ok (T:=T) (s:=s1) hw.fit.i 10 (σ:=τ) (b:=b) hh
  generalize curT T s1=tk at *
  unfold tokAV at hcu
  obtain ⟨F,hF⟩:∃ F,F=ACode.wp Tryz.prog c7_20:=⟨_,rfl⟩
  have fin:∀ a1:AFr,(a1 2 = .ptr d 0/\a1 8 = .ptr b 0/\a1 9 = .ptr e 0)->F (RetQ [.c 2 (some 12),.t 3,.t 4] fun v σ'=>v = .tuple [R.1.av,.int .i64 R.2.1,.int .i64 R.2.2]/\σ'=σ) a1 (T3 (pr T s2) (some (.obj zero12)) (some (.obj (Nd.cs o m t x y KL)))):=by
   intro a1 hf1
   rw [hF]
   unfold zero12
   have x1:∀ Y Z,T3 (pr T s2) Y Z b=some (.obj [.sl .shr (T.map tokAV),.int .i64 s2.i,.int .i64 s2.deep,.int .i64 s2.err,.int .i64 s2.bad]):=fun Y Z=>w1 _ _ _
   by_cases h2:s2.err=0
   ·rw [if_neg (by simp [h2])] at hR
    have hR':(Nd.mk o m t x y ks,(0:Int),(0:Int))=R:=hR
    subst hR'
    dsimp only
    rw [Nd.av_cs,hKL]
    simp (disch:=first|assumption|omega) only [go_sem,Nat.reduceEqDiff,Nat.reduceAdd,Nat.reduceLeDiff,↓reduceIte,hf1,x1,h2,w3,w2,k2]
    exact retC_by (hDr _ _ _) (.refl _) ⟨rfl,rfl⟩
   ·rw [if_pos h2] at hR
    have hR':(zN,s2.bad,s2.err)=R:=hR
    subst hR'
    dsimp only
    rw [zN_av]
    simp (disch:=first|assumption|omega) only [go_sem,Nat.reduceEqDiff,Nat.reduceAdd,Nat.reduceLeDiff,↓reduceIte,Bool.true_and,hf1,x1,h2,w2,k2]
    exact retC_by (hDr _ _ _) (hz _ _ _ _) ⟨rfl,rfl⟩
  unfold zero12 at fin
  simp (disch:=first|assumption|omega) only [go_sem,Nat.reduceEqDiff,Nat.reduceAdd,Nat.reduceLeDiff,↓reduceIte,ab,k3,w3,←hF]
  refine (hcu _ _).mono ?_
  rintro v σ1 ⟨rfl,rfl⟩
  by_cases hk:tk.kind=0
  ·rw [if_neg (by simp [hk])] at hs2
   subst hs2
   simp (disch:=first|assumption|omega) only [go_sem,↓reduceIte,hk]
   refine fin _ ?_
   simp (disch:=first|assumption|omega) only [go_sem,Nat.reduceEqDiff,↓reduceIte]
  ·rw [if_pos hk] at hs2
   subst hs2
   simp (disch:=first|assumption|omega) only [go_sem,Nat.reduceEqDiff,↓reduceIte,hk]
   refine (hfl _ (w1 _ _ _)).mono ?_
   rintro v σ1 ⟨rfl,rfl⟩
   rw [k1]
   simp (disch:=first|assumption|omega) only [go_sem]
   refine fin _ ?_
   simp (disch:=first|assumption|omega) only [go_sem,Nat.reduceEqDiff,↓reduceIte]
 ·rw [if_pos he] at hR
  have hR':(zN,(at':Int),er)=R:=hR
  subst hR'
  rw [zN_av]
  simp (disch:=first|assumption|omega) only [go_sem,Nat.reduceEqDiff,Nat.reduceAdd,Nat.reduceLeDiff,↓reduceIte,Bool.true_and,he,ASt.set_set]
  exact retC_by (Drop.set hd) (hz _ _ _ _) ⟨rfl,rfl⟩
end Go.A
namespace Go.A
open Go.Proofs Go.Lib
theorem columnP_rng (l:List UInt8):0<=(columnP l).1/\(columnP l).1<700:=by
 unfold columnP
 split
 ·split
  ·decide
  ·dsimp only;omega
 ·decide
theorem readQ_good (l:List UInt8) (i:Nat) (col:Int) (ar ac:Bool) (h:0<=col/\col<700):(readQ l i col ar ac).1.good=true:=by
 unfold readQ
 split
 ·rfl
 ·simp only [Ref.good,decide_eq_true_eq];omega
theorem readR_good (l:List UInt8) (i:Nat) (ac:Bool):(readR l i ac).1.good=true:=by
 unfold readR
 split
 ·rfl
 split
 ·exact readQ_good _ _ _ _ _ (columnP_rng _)
 ·exact readQ_good _ _ _ _ _ (columnP_rng _)
theorem parseP_good (l:List UInt8):(parseP l).1.good=true:=by
 unfold parseP
 split
 ·rfl
 ·unfold readP
  split
  ·exact readR_good _ _ _
  ·exact readR_good _ _ _
theorem parseQ_rng {m d:Bool} {w p:List UInt8} {v:Int} (h:parseQ m w p d=some v):v.natAbs<=999999999999999999:=by
 unfold parseQ at h
 split at h
 ·cases h
 ·obtain ⟨n,_,hn⟩:=Option.bind_eq_some_iff.1 h
  unfold madeP at hn
  split at hn
  ·injection hn with hn
   split at hn<;>omega
  ·cases hn
theorem parseD_rng {s:List UInt8} {v:Int} (h:parseD s=some v):v.natAbs<=999999999999999999:=parseQ_rng h
mutual
def Nd.nk:Nd->Prop
 | .mk op _ _ _ _ ks=>((op=5\/op=6)->ks = [])/\Nd.nks ks
def Nd.nks:List Nd->Prop
 | []=>True
 | x::xs=>x.nk/\Nd.nks xs
end
theorem nks_mem:∀ {l:List Nd},Nd.nks l↔∀ x∈l,x.nk
 | []=>by simp [Nd.nks]
 | x::xs=>by rw [Nd.nks,nks_mem (l:=xs)];simp
def Nd.gd (n:Nd):Prop:=n.ok/\n.nk
theorem gd_mk {op n:Int} {s:List UInt8} {a b:Ref} {ks:List Nd} (h:nodeOk op n s a b ks.length) (h2:(op=5\/op=6)->ks = []) (hk:∀ x∈ks,x.gd):(Nd.mk op n s a b ks).gd:=by
 constructor
 ·rw [Nd.ok]
  exact ⟨h,Nd.oks_mem.2 fun x hx=>(hk x hx).1⟩
 ·rw [Nd.nk]
  exact ⟨h2,nks_mem.2 fun x hx=>(hk x hx).2⟩
theorem no_kids {x:Nd}:∀ y∈([]:List Nd),y.gd:=fun y hy=>by cases hy
theorem miss_gd:missN.gd:=gd_mk ⟨by decide,fun h=>by omega,fun h=>by omega,fun h=>by omega,fun h=>by omega,fun h=>by omega,fun h=>by omega,fun h=>by omega,fun h=>by omega,by decide⟩ (fun h=>by omega) (no_kids (x:=missN))
theorem sign_rng {x:List UInt8} {lvl:Nat} (h:x∈levelsL.getD lvl []):0<=idxP signL x/\idxP signL x<=11:=by
 have:∀ y∈levelsL.flatten,0<=idxP signL y/\idxP signL y<=11:=by decide
 refine this x (List.mem_flatten.2 ?_)
 rw [List.getD_eq_getElem?_getD] at h
 cases hl:levelsL[lvl]? with
 | none=>rw [hl] at h;simp at h
 | some l=>rw [hl] at h;exact ⟨l,List.mem_of_getElem? hl,h⟩
theorem fault_rng {x:List UInt8} (h:x∈errTexts):0<=idxP errL x/\idxP errL x<=6:=by
 have:∀ y∈errTexts,0<=idxP errL y/\idxP errL y<=6:=by decide
 exact this x h
theorem sizes_snoc (l:List Nd) (x:Nd):Nd.sizes (l ++ [x])=Nd.sizes l+x.size:=by
 induction l with
 | nil=>simp [Nd.sizes]
 | cons y l ih=>rw [List.cons_append,Nd.sizes,ih,Nd.sizes];omega
section
variable {T:List Tok}
theorem Went.e0 {s s':PSt} (h:Went T s s') (h0:s'.err=0):s.err=0:=by
 by_cases he:s.err=0
 ·exact he
 ·have:=(h.err he).1;omega
theorem enter_i {s:PSt} (h:(stepP1 (enterP T s)).err=0):(stepP1 (enterP T s)).i=s.i+1:=by
 have hi:(enterP T s).i=s.i:=by
  unfold enterP failP
  split
  ·split<;>rfl
  ·rfl
 unfold stepP1 at h ⊢
 split
 ·show (enterP T s).i+1=_
  omega
 ·rename_i hne
  rw [if_neg hne] at h
  exact absurd h hne
theorem must_i {s:PSt} {x:List UInt8} (h:(mustP T s x).err=0):s.err=0/\(mustP T s x).i=s.i+1:=by
 unfold mustP at h ⊢
 split
 ·rename_i hx
  rw [if_pos hx] at h
  exact ⟨h,rfl⟩
 ·rename_i hx
  rw [if_neg hx] at h
  unfold failP at h
  split at h
  ·cases h
  ·rename_i hne;exact absurd h hne
theorem fail_err {s:PSt} {e:Int} (he:e≠0) (h:(failP T s e).err=0):False:=by
 unfold failP at h
 split at h
 ·exact he h
 ·rename_i hne;exact hne h
structure GoodF (T:List Tok) (f:Nat):Prop where
 betw:∀ lvl s r,betwP T f lvl s=some r->Fit T s->r.2.err=0->r.1.gd/\r.1.size+2*s.i<=2*r.2.i
 loop:∀ lvl n s r,loopP T f lvl n s=some r->Fit T s->r.2.err=0->n.gd->r.1.gd/\r.1.size+2*s.i<=n.size+2*r.2.i
 signed:∀ s r,signedP T f s=some r->Fit T s->r.2.err=0->r.1.gd/\r.1.size+2*s.i<=2*r.2.i
 hundred:∀ s r,hundredP T f s=some r->Fit T s->r.2.err=0->r.1.gd/\r.1.size+2*s.i<=2*r.2.i
 hloop:∀ n s r,hloopP T f n s=some r->Fit T s->r.2.err=0->n.gd->r.1.gd/\r.1.size+2*s.i<=n.size+2*r.2.i
 prim:∀ s r,primP T f s=some r->Fit T s->r.2.err=0->r.1.gd/\r.1.size+2*s.i<=2*r.2.i
 name:∀ s r,nameP T f s=some r->Fit T s->(curT T s).kind=3->r.2.err=0->r.1.gd/\r.1.size+2*s.i<=2*r.2.i
 args:∀ s r,argsP T f s=some r->Fit T s->r.2.err=0->(∀ x∈r.1,x.gd)/\Nd.sizes r.1+2*s.i<=2*r.2.i
 aloop:∀ l s r,aloopP T f l s=some r->Fit T s->r.2.err=0->(∀ x∈l,x.gd)->(∀ x∈r.1,x.gd)/\Nd.sizes r.1+2*s.i<=Nd.sizes l+2*r.2.i
theorem leaf_gd {op n:Int} {s:List UInt8} {a b:Ref} (h:nodeOk op n s a b 0):(Nd.mk op n s a b []).gd:=gd_mk h (fun _=>rfl) (no_kids (x:=missN))
theorem leaf_size (op n:Int) (s:List UInt8) (a b:Ref):(Nd.mk op n s a b []).size=1:=by rw [Nd.size,Nd.sizes]
theorem one_size (op n:Int) (s:List UInt8) (a b:Ref) (x:Nd):(Nd.mk op n s a b [x]).size=1+x.size:=by rw [Nd.size,Nd.sizes,Nd.sizes];omega
theorem two_size (op n:Int) (s:List UInt8) (a b:Ref) (x y:Nd):(Nd.mk op n s a b [x,y]).size=1+x.size+y.size:=by rw [Nd.size,Nd.sizes,Nd.sizes,Nd.sizes];omega
theorem one_gd {op n:Int} {s:List UInt8} {a b:Ref} {x:Nd} (h:nodeOk op n s a b 1) (h5:op≠5/\op≠6) (hx:x.gd):(Nd.mk op n s a b [x]).gd:=
 gd_mk h (fun h=>by omega) fun y hy=>by simp at hy;subst hy;exact hx
theorem one_ok {op:Int} (h:op=7\/op=8\/op=9):nodeOk op 0 [] .zero .zero 1:=
 ⟨by omega,fun h=>by omega,fun h=>by omega,fun h=>by omega,fun h=>by omega,fun h=>by omega,fun h=>by omega,fun h=>by omega,fun h=>by omega,by decide⟩
theorem goodF (hT:Ends T) (hG:∀ i,(T.getD i endT).kind≠0->TokGd (T.getD i endT)) (hL:T.length<=100000):∀ f,GoodF T f
 | 0=>by
   constructor
   all_goals intros
   all_goals first
    | (rename_i h _ _;simp only [betwP,signedP,hundredP,primP,argsP,reduceCtorEq] at h)
    | (rename_i h _ _ _;simp only [loopP,hloopP,nameP,aloopP,reduceCtorEq] at h)
 | f+1=>by
   have ih:=goodF hT hG hL f
   have W:=wentF hT f
   constructor
   ·intro lvl s r h hf h0
    rw [betwP] at h
    split at h
    ·exact ih.signed s r h hf h0
    ·split at h
     ·cases h
     ·rename_i r1 h1
      have w1:=W.betw _ _ _ h1 hf
      have w2:=W.loop _ _ _ _ h w1.fit
      obtain ⟨g1,g2⟩:=ih.betw _ _ _ h1 hf (w2.e0 h0)
      obtain ⟨g3,g4⟩:=ih.loop _ _ _ _ h w1.fit h0 g1
      exact ⟨g3,by omega⟩
   ·intro lvl n s r h hf h0 hn
    rw [loopP] at h
    split at h
    ·rename_i hk
     split at h
     ·cases h
     ·rename_i r1 h1
      have w0:=Went.next hT hf (sgn_kind hk)
      have w1:=W.betw _ _ _ h1 w0.fit
      have w2:=W.loop _ _ _ _ h w1.fit
      obtain ⟨g1,g2⟩:=ih.betw _ _ _ h1 w0.fit (w2.e0 h0)
      have hs:(curT T s).text∈levelsL.getD lvl []:=by
       unfold sgn at hk
       simp only [Bool.and_eq_true,decide_eq_true_eq] at hk
       exact hk.2
      have hr:=sign_rng hs
      have hg:(Nd.mk (10+idxP signL (curT T s).text) 0 [] .zero .zero [n,r1.1]).gd:=by
       refine gd_mk ⟨by omega,fun h=>by omega,fun h=>by omega,fun h=>by omega,fun h=>by omega,fun h=>by omega,fun h=>by omega,fun h=>by omega,fun h=>by simp,by simp⟩ (fun h=>by omega) fun y hy=>?_
       simp only [List.mem_cons,List.not_mem_nil,or_false] at hy
       rcases hy with rfl|rfl
       ·exact hn
       ·exact g1
      obtain ⟨g3,g4⟩:=ih.loop _ _ _ _ h w1.fit h0 hg
      rw [two_size] at g4
      have:s.next.i=s.i+1:=rfl
      exact ⟨g3,by omega⟩
    ·injection h with h;subst h;exact ⟨hn,by dsimp only;omega⟩
   ·intro s r h hf h0
    rw [signedP] at h
    split at h
    ·rename_i hk
     split at h
     ·cases h
     ·rename_i r1 h1
      injection h with h;subst h
      obtain ⟨e1,e2,e3⟩:=enter_fit hT hf (isOp_kind hk)
      have w1:=W.signed _ _ h1 e1
      have e4:=enter_i (w1.e0 h0)
      obtain ⟨g1,g2⟩:=ih.signed _ _ h1 e1 h0
      dsimp only
      rw [one_size]
      exact ⟨one_gd (one_ok (by omega)) (by omega) g1,by show _<=2*r1.2.i;omega⟩
    split at h
    ·rename_i hk
     split at h
     ·cases h
     ·rename_i r1 h1
      injection h with h;subst h
      obtain ⟨e1,e2,e3⟩:=enter_fit hT hf (isOp_kind hk)
      have w1:=W.signed _ _ h1 e1
      have e4:=enter_i (w1.e0 h0)
      obtain ⟨g1,g2⟩:=ih.signed _ _ h1 e1 h0
      dsimp only
      rw [one_size]
      exact ⟨one_gd (one_ok (by omega)) (by omega) g1,by show _<=2*r1.2.i;omega⟩
    ·exact ih.hundred _ _ h hf h0
   ·intro s r h hf h0
    rw [hundredP] at h
    split at h
    ·cases h
    ·rename_i r1 h1
     have w1:=W.prim _ _ h1 hf
     have w2:=W.hloop _ _ _ h w1.fit
     obtain ⟨g1,g2⟩:=ih.prim _ _ h1 hf (w2.e0 h0)
     obtain ⟨g3,g4⟩:=ih.hloop _ _ _ h w1.fit h0 g1
     exact ⟨g3,by omega⟩
   ·intro n s r h hf h0 hn
    rw [hloopP] at h
    split at h
    ·rename_i hk
     have w0:=Went.next hT hf (isOp_kind hk)
     obtain ⟨g3,g4⟩:=ih.hloop _ _ _ h w0.fit h0 (one_gd (one_ok (by omega)) (by omega) hn)
     rw [one_size] at g4
     have:s.next.i=s.i+1:=rfl
     exact ⟨g3,by omega⟩
    ·injection h with h;subst h;exact ⟨hn,by dsimp only;omega⟩
   ·intro s r h hf h0
    have hni:s.next.i=s.i+1:=rfl
    have hgd:(curT T s).kind≠0->TokGd (curT T s):=fun hk=>by
     have he:=cur_err hk
     rw [cur_at he] at hk ⊢
     exact hG _ hk
    rw [primP] at h
    split at h
    ·rename_i hk
     split at h
     ·injection h with h;subst h;exact absurd h0 fun h=>fail_err (by decide) h
     ·rename_i v hv
      injection h with h;subst h
      refine ⟨leaf_gd ⟨by decide,fun _=>parseD_rng hv,fun h=>by omega,fun h=>by omega,fun h=>by omega,fun h=>by omega,fun h=>by omega,fun h=>by omega,fun h=>by omega,by decide⟩,?_⟩
      rw [leaf_size];dsimp only;omega
    split at h
    ·rename_i hk
     injection h with h;subst h
     have:=(hgd (by omega)).len
     refine ⟨leaf_gd ⟨by decide,fun h=>by omega,fun _=>by omega,fun h=>by omega,fun h=>by omega,fun h=>by omega,fun h=>by omega,fun h=>by omega,fun h=>by omega,by decide⟩,?_⟩
     rw [leaf_size];dsimp only;omega
    split at h
    ·rename_i hk
     injection h with h;subst h
     have hr:=fault_rng ((hgd (by omega)).err hk)
     have hq:((idxP errL (curT T s).text+1)*10000).tdiv 10000=idxP errL (curT T s).text+1:=Int.mul_tdiv_cancel _ (by decide)
     refine ⟨leaf_gd ⟨by decide,fun h=>by omega,fun h=>by omega,fun h=>by rw [hq];omega,fun h=>by omega,fun h=>by omega,fun h=>by omega,fun h=>by omega,fun h=>by omega,by decide⟩,?_⟩
     rw [leaf_size];dsimp only;omega
    split at h
    ·rename_i hk
     injection h with h;subst h
     unfold areaP at h0 ⊢
     split at h0
     ·rename_i ho
      rw [if_pos ho]
      refine ⟨leaf_gd ⟨by decide,fun h=>by omega,fun h=>by omega,fun h=>by omega,fun h=>by omega,fun _=>parseP_good _,fun h=>by omega,fun h=>by omega,fun h=>by omega,by decide⟩,?_⟩
      rw [leaf_size];dsimp only;omega
     ·rename_i ho
      rw [if_neg ho]
      split at h0
      ·exact absurd h0 fun h=>fail_err (by decide) h
      ·rename_i hk2
       rw [if_neg hk2]
       refine ⟨leaf_gd ⟨by decide,fun h=>by omega,fun h=>by omega,fun h=>by omega,fun h=>by omega,fun _=>parseP_good _,fun _=>parseP_good _,fun h=>by omega,fun h=>by omega,by decide⟩,?_⟩
       rw [leaf_size]
       have:s.next.next.next.i=s.i+3:=rfl
       dsimp only;omega
    split at h
    ·rename_i hk
     exact ih.name _ _ h hf hk h0
    split at h
    ·rename_i hk
     split at h
     ·cases h
     ·rename_i r1 h1
      injection h with h;subst h
      obtain ⟨e1,e2,e3⟩:=enter_fit hT hf (isOp_kind hk)
      have w1:=W.betw _ _ _ h1 e1
      obtain ⟨m1,m2⟩:=must_i (T:=T) (s:=r1.2) (x := [41]) h0
      have e4:=enter_i (w1.e0 m1)
      obtain ⟨g1,g2⟩:=ih.betw _ _ _ h1 e1 m1
      exact ⟨g1,by show _<=2*(mustP T r1.2 [41]).i;dsimp only;omega⟩
    ·injection h with h;subst h;exact absurd h0 fun h=>fail_err (by decide) h
   ·intro s r h hf hk3 h0
    have hni:s.next.i=s.i+1:=rfl
    have he0:s.err=0:=cur_err (T:=T) (by omega)
    have hn:=hf.next hT (by omega)
    have hgd:TokGd (curT T s):=by
     have hk:(curT T s).kind≠0:=by omega
     rw [cur_at he0] at hk ⊢
     exact hG _ hk
    rw [nameP] at h
    split at h
    ·rename_i hk
     obtain ⟨e1,e2,e3⟩:=enter_err hT hf he0
     split at h
     ·rename_i he
      injection h with h;subst h
      exact absurd h0 he
     ·rename_i he
      split at h
      ·cases h
      ·rename_i r1 h1
       injection h with h;subst h
       obtain ⟨g1,g2,g3,_⟩:=enter2 hT hf (by omega) (by simpa using he)
       have hl:=hT.more (s.i+1) hn.1.i (by omega)
       have g4:Fit T (enterP T s).next.next:=⟨by show (enterP T s).i+1+1<_;omega,g1.d0,g1.d1,g1.d2⟩
       have w1:=W.args _ _ h1 g4
       obtain ⟨k1,k2⟩:=ih.args _ _ h1 g4 h0
       have hi2:(enterP T s).next.next.i=(enterP T s).i+2:=rfl
       have hsl:=sizes_len r1.1
       have hlt:=w1.fit.i
       refine ⟨gd_mk ⟨by decide,fun h=>by omega,fun h=>by omega,fun h=>by omega,fun _=>hgd.nam hk3,fun h=>by omega,fun h=>by omega,fun h=>by omega,fun h=>by omega,by omega⟩ (fun h=>by omega) k1,?_⟩
       dsimp only
       rw [Nd.size]
       show _<=2*r1.2.i
       omega
    split at h
    ·injection h with h;subst h
     refine ⟨leaf_gd ⟨by decide,fun h=>by omega,fun h=>by omega,fun h=>by omega,fun h=>by omega,fun h=>by omega,fun h=>by omega,fun h=>by omega,fun h=>by omega,by decide⟩,?_⟩
     rw [leaf_size];dsimp only;omega
    split at h
    ·injection h with h;subst h
     refine ⟨leaf_gd ⟨by decide,fun h=>by omega,fun h=>by omega,fun h=>by omega,fun h=>by omega,fun h=>by omega,fun h=>by omega,fun h=>by omega,fun h=>by omega,by decide⟩,?_⟩
     rw [leaf_size];dsimp only;omega
    ·injection h with h;subst h;exact absurd h0 fun h=>fail_err (by decide) h
   ·intro s r h hf h0
    rw [argsP] at h
    split at h
    ·rename_i hk
     injection h with h;subst h
     refine ⟨no_kids (x:=missN),?_⟩
     have:s.next.i=s.i+1:=rfl
     rw [Nd.sizes];dsimp only;omega
    ·obtain ⟨g1,g2⟩:=ih.aloop _ _ _ h hf h0 (no_kids (x:=missN))
     rw [Nd.sizes] at g2
     exact ⟨g1,by omega⟩
   ·intro l s r h hf h0 hl
    rw [aloopP] at h
    split at h
    ·rename_i he
     injection h with h;subst h;exact absurd h0 he
    ·rename_i he
     split at h
     ·cases h
     ·rename_i r1 h1
      have w1:Went T s r1.2:=by
       split at h1
       ·injection h1 with h1;subst h1;exact Went.refl hf
       ·exact W.betw _ _ _ h1 hf
      have key:r1.2.err=0->r1.1.gd/\r1.1.size+2*s.i<=1+2*r1.2.i:=fun k0=>by
       split at h1
       ·injection h1 with h1;subst h1
        refine ⟨miss_gd,?_⟩
        show missN.size+_<=_
        unfold missN
        rw [leaf_size]
        dsimp only
        omega
       ·obtain ⟨k1,k2⟩:=ih.betw _ _ _ h1 hf k0
        exact ⟨k1,by omega⟩
      have hsnoc:=sizes_snoc l r1.1
      have hmem:r1.1.gd->∀ x∈l ++ [r1.1],x.gd:=fun k x hx=>by
       rcases List.mem_append.1 hx with hx|hx
       ·exact hl x hx
       ·simp at hx;subst hx;exact k
      split at h
      ·rename_i hk
       have w2:=Went.next hT w1.fit (isOp_kind hk)
       have w3:=W.aloop _ _ _ h w2.fit
       obtain ⟨k1,k2⟩:=key (w2.e0 (w3.e0 h0))
       obtain ⟨g1,g2⟩:=ih.aloop _ _ _ h w2.fit h0 (hmem k1)
       have:r1.2.next.i=r1.2.i+1:=rfl
       exact ⟨g1,by omega⟩
      ·injection h with h;subst h
       obtain ⟨m1,m2⟩:=must_i (T:=T) (s:=r1.2) (x := [41]) h0
       obtain ⟨k1,k2⟩:=key m1
       exact ⟨hmem k1,by dsimp only;omega⟩
end
theorem parseR_gd {s:List UInt8} (h:(parseR s).2.2=0):(parseR s).1.gd/\(parseR s).1.size<=5000:=by
 unfold parseR parseT at h ⊢
 by_cases h1:(lexP s).2.2=0
 ·obtain ⟨hT,hL,hG⟩:=lex_toks h1
  obtain ⟨r,hr⟩:=betw_some h1
  have hr':=hr
  unfold st0 at hr
  rw [if_neg (by simp [h1]),hr] at h ⊢
  dsimp only at h ⊢
  have W:=(wentF hT.ends _).betw _ _ _ hr' (st0_fit hT.ends)
  obtain ⟨q,hq⟩:∃ q,(if (curT (lexP s).1 r.2).kind≠0 then failP (lexP s).1 r.2 10 else r.2)=q:=⟨_,rfl⟩
  rw [hq] at h ⊢
  by_cases he:q.err≠0
  ·rw [if_pos he] at h
   exact absurd h he
  ·rw [if_neg he]
   have h0:r.2.err=0:=by
    split at hq
    ·subst hq
     exact absurd (by simpa using he) fun h=>fail_err (T:=(lexP s).1) (s:=r.2) (e:=10) (by decide) h
    ·subst hq
     simpa using he
   obtain ⟨g1,g2⟩:=(goodF hT.ends hG (by omega) _).betw _ _ _ hr' (st0_fit hT.ends) h0
   have:=W.fit.i
   refine ⟨g1,?_⟩
   show r.1.size<=_
   omega
 ·rw [if_pos (by simpa using h1)] at h
  exact absurd h h1
end Go.A
namespace Go.A
open Go.Proofs
/-! 9: (tabular/shift.Edit).Good -/
def c9_27:ACode := .seq (.seq (.ops [ oq 5 (.fa 2 (.t 2)),oq 6 (.ld none (.t 5)),oq 7 (.bin .lss (.t 6) (.v (.int .i64 0))),oq 8 (.mv (.t 7)),⟨some 9,some (8,false),.q (.fa 3 (.t 2)),[]⟩,⟨some 10,some (8,false),.q (.ld none (.t 9)),[]⟩,⟨some 11,some (8,false),.q (.bin .lss (.t 10) (.v (.int .i64 1))),[]⟩,oq 12 (.pick (.t 8) (.v (.bool true)) (.t 11)),oq 13 (.mv (.t 12)),⟨some 14,some (13,false),.q (.mv (.t 1)),[]⟩,⟨some 15,some (13,false),.q (.bin .lss (.t 14) (.v (.int .i64 0))),[]⟩,oq 16 (.pick (.t 13) (.v (.bool true)) (.t 15)),oq 17 (.mv (.t 16)),⟨some 18,some (17,false),.q (.mv (.t 1)),[]⟩,⟨some 19,some (17,false),.q (.ld (some 5) (.t 2)),[]⟩,⟨some 20,some (17,false),.e (.call 35 [(.t 19)]),[]⟩,⟨some 21,some (17,false),.q (.bin .gtr (.t 18) (.t 20)),[]⟩,oq 22 (.pick (.t 17) (.v (.bool true)) (.t 21))]) (.cond (.t 22) (.seq (.ops [ oq 4 (.mv (.v (.bool false)))]) .ret) .skip)) (.seq (.seq (.ops [ oq 23 (.fa 1 (.t 2)),oq 24 (.ld none (.t 23))]) (.block 0 (.seq (.ops [ oq 26 (.bin .eql (.t 24) (.v (.int .i64 1))),oq 25 (.mv (.t 26))]) (.cond (.t 25) (.seq (.ops [ oq 27 (.fa 2 (.t 2)),oq 28 (.ld none (.t 27)),oq 29 (.mv (.t 1)),oq 30 (.bin .leq (.t 28) (.t 29)),oq 31 (.mv (.t 30)),⟨some 32,some (31,true),.q (.fa 3 (.t 2)),[]⟩,⟨some 33,some (31,true),.q (.ld none (.t 32)),[]⟩,⟨some 34,some (31,true),.q (.ld (some 5) (.t 2)),[]⟩,⟨some 36,some (31,true),.q (.mv (.t 1)),[]⟩,⟨some 35,some (31,true),.e (.call 35 [(.t 34)]),[⟨(some (31,true)),.ld none (.t 32),33⟩]⟩,⟨some 37,some (31,true),.q (.bin .sub (.t 35) (.t 36)),[]⟩,⟨some 38,some (31,true),.q (.bin .leq (.t 33) (.t 37)),[]⟩,oq 39 (.pick (.t 31) (.t 38) (.v (.bool false))),oq 4 (.mv (.t 39))]) .ret) (.seq (.ops [ oq 41 (.bin .eql (.t 24) (.v (.int .i64 2))),oq 40 (.mv (.t 41))]) (.cond (.t 40) (.seq (.ops [ oq 42 (.fa 3 (.t 2)),oq 43 (.ld none (.t 42)),oq 44 (.mv (.t 1)),oq 45 (.bin .lss (.t 43) (.t 44)),oq 46 (.mv (.t 45)),⟨some 47,some (46,true),.q (.fa 2 (.t 2)),[]⟩,⟨some 48,some (46,true),.q (.ld none (.t 47)),[]⟩,⟨some 49,some (46,true),.q (.mv (.t 1)),[]⟩,⟨some 50,some (46,true),.q (.fa 3 (.t 2)),[]⟩,⟨some 51,some (46,true),.q (.ld none (.t 50)),[]⟩,⟨some 52,some (46,true),.q (.bin .sub (.t 49) (.t 51)),[]⟩,⟨some 53,some (46,true),.q (.bin .leq (.t 48) (.t 52)),[]⟩,oq 54 (.pick (.t 46) (.t 53) (.v (.bool false))),oq 4 (.mv (.t 54))]) .ret) (.seq (.ops [ oq 56 (.bin .eql (.t 24) (.v (.int .i64 3))),oq 55 (.mv (.t 56))]) (.cond (.t 55) (.seq (.ops [ oq 57 (.fa 3 (.t 2)),oq 58 (.ld none (.t 57)),oq 59 (.mv (.t 1)),oq 60 (.bin .leq (.t 58) (.t 59)),oq 61 (.mv (.t 60)),⟨some 62,some (61,true),.q (.fa 2 (.t 2)),[]⟩,⟨some 63,some (61,true),.q (.ld none (.t 62)),[]⟩,⟨some 64,some (61,true),.q (.mv (.t 1)),[]⟩,⟨some 65,some (61,true),.q (.fa 3 (.t 2)),[]⟩,⟨some 66,some (61,true),.q (.ld none (.t 65)),[]⟩,⟨some 67,some (61,true),.q (.bin .sub (.t 64) (.t 66)),[]⟩,⟨some 68,some (61,true),.q (.bin .leq (.t 63) (.t 67)),[]⟩,oq 69 (.pick (.t 61) (.t 68) (.v (.bool false))),oq 70 (.mv (.t 69)),⟨some 71,some (70,true),.q (.fa 4 (.t 2)),[]⟩,⟨some 72,some (70,true),.q (.ld none (.t 71)),[]⟩,⟨some 73,some (70,true),.q (.bin .geq (.t 72) (.v (.int .i64 0))),[]⟩,oq 74 (.pick (.t 70) (.t 73) (.v (.bool false))),oq 75 (.mv (.t 74)),⟨some 76,some (75,true),.q (.fa 4 (.t 2)),[]⟩,⟨some 77,some (75,true),.q (.ld none (.t 76)),[]⟩,⟨some 78,some (75,true),.q (.mv (.t 1)),[]⟩,⟨some 79,some (75,true),.q (.fa 3 (.t 2)),[]⟩,⟨some 80,some (75,true),.q (.ld none (.t 79)),[]⟩,⟨some 81,some (75,true),.q (.bin .sub (.t 78) (.t 80)),[]⟩,⟨some 82,some (75,true),.q (.bin .leq (.t 77) (.t 81)),[]⟩,oq 83 (.pick (.t 75) (.t 82) (.v (.bool false))),oq 4 (.mv (.t 83))]) .ret) .skip)))))))) (.seq (.ops [ oq 4 (.mv (.v (.bool false)))]) .ret))
def c9_28:ACode := .seq (.ops [ oe 2 (.box (.t 0)),oq 4 (.mv (.v (.bool false)))]) c9_27
@[go_sem] def c9_27_wp:=wp_of c9_27.eq_1
@[go_sem] def c9_28_wp:=wp_of c9_28.eq_1
def c9:AFn:=⟨84,[.t 4],c9_28⟩
theorem c9_ok:compF Tryz.prog Tryz.f9=some c9:=by kernel_rfl
theorem a9 {args:List AV} {σ:ASt} {R:AV->ASt->Prop} (hl:args.length<=84) (h:c9_28.wp Tryz.prog (RetQ [.t 4] R) (init args) σ):ACalls Tryz.prog 9 args σ R:=acalls_of Tryz.func9 c9_ok hl h
/-! 35: (tabular/shift.Edit).most -/
def c35_9:ACode := .seq (.ops [ oe 1 (.box (.t 0)),oq 2 (.mv (.v (.int .i64 0)))]) (.seq (.seq (.ops [ oq 3 (.fa 0 (.t 1)),oq 4 (.ld none (.t 3))]) (.cond (.t 4) (.seq (.ops [ oq 2 (.mv (.v (.int .i64 700)))]) .ret) .skip)) (.seq (.ops [ oq 2 (.mv (.v (.int .i64 3000)))]) .ret))
@[go_sem] def c35_9_wp:=wp_of c35_9.eq_1
def c35:AFn:=⟨5,[.t 2],c35_9⟩
theorem c35_ok:compF Tryz.prog Tryz.f35=some c35:=by kernel_rfl
theorem a35 {args:List AV} {σ:ASt} {R:AV->ASt->Prop} (hl:args.length<=5) (h:c35_9.wp Tryz.prog (RetQ [.t 2] R) (init args) σ):ACalls Tryz.prog 35 args σ R:=acalls_of Tryz.func35 c35_ok hl h
/-! 43: tabular/shift.gone -/
def c43_3:ACode := .seq (.ops [ oe 0 (.alloc [(.int .i64 0),(.int .i64 0),(.str []),(.int .i64 0),(.int .i64 0),(.bool false),(.bool false),(.int .i64 0),(.int .i64 0),(.bool false),(.bool false),(.sl .full [])])]) (.seq (.ops [ oq 1 (.build [(.int .i64 0),(.int .i64 0),(.str []),(.int .i64 0),(.int .i64 0),(.bool false),(.bool false),(.int .i64 0),(.int .i64 0),(.bool false),(.bool false),(.sl .full [])] [(0,1,(.v (.int .i64 4))),(1,1,(.v (.int .i64 40000)))]),oz (.store 12 (.t 0) (.t 1))]) .ret)
@[go_sem] def c43_3_wp:=wp_of c43_3.eq_1
def c43:AFn:=⟨2,[.c 0 (some 12)],c43_3⟩
theorem c43_ok:compF Tryz.prog Tryz.f43=some c43:=by kernel_rfl
theorem a43 {args:List AV} {σ:ASt} {R:AV->ASt->Prop} (hl:args.length<=2) (h:c43_3.wp Tryz.prog (RetQ [.c 0 (some 12)] R) (init args) σ):ACalls Tryz.prog 43 args σ R:=acalls_of Tryz.func43 c43_ok hl h
/-! 72: (tabular/shift.Edit).Place -/
def c72_48:ACode := .seq (.seq (.ops [ oq 6 (.fa 1 (.t 2)),oq 7 (.ld none (.t 6))]) (.block 0 (.seq (.ops [ oq 9 (.bin .eql (.t 7) (.v (.int .i64 1))),oq 8 (.mv (.t 9))]) (.cond (.t 8) (.seq (.seq (.ops [ oq 10 (.mv (.t 1)),oq 11 (.fa 2 (.t 2)),oq 12 (.ld none (.t 11)),oq 13 (.bin .geq (.t 10) (.t 12))]) (.cond (.t 13) (.ops [ oq 14 (.mv (.t 1)),oq 15 (.fa 3 (.t 2)),oq 16 (.ld none (.t 15)),oq 17 (.bin .add (.t 14) (.t 16)),oq 1 (.mv (.t 17))]) .skip)) (.seq (.ops [ oq 18 (.mv (.t 1)),oq 19 (.mv (.t 1)),oq 20 (.ld (some 5) (.t 2)),oe 21 (.call 35 [(.t 20)]),oq 22 (.bin .lss (.t 19) (.t 21)),oq 4 (.mv (.t 18)),oq 5 (.mv (.t 22))]) .ret)) (.seq (.ops [ oq 24 (.bin .eql (.t 7) (.v (.int .i64 2))),oq 23 (.mv (.t 24))]) (.cond (.t 23) (.seq (.seq (.ops [ oq 25 (.mv (.t 1)),oq 26 (.fa 2 (.t 2)),oq 27 (.ld none (.t 26)),oq 28 (.bin .geq (.t 25) (.t 27)),oq 29 (.mv (.t 28)),⟨some 30,some (29,true),.q (.mv (.t 1)),[]⟩,⟨some 31,some (29,true),.q (.fa 2 (.t 2)),[]⟩,⟨some 32,some (29,true),.q (.ld none (.t 31)),[]⟩,⟨some 33,some (29,true),.q (.fa 3 (.t 2)),[]⟩,⟨some 34,some (29,true),.q (.ld none (.t 33)),[]⟩,⟨some 35,some (29,true),.q (.bin .add (.t 32) (.t 34)),[]⟩,⟨some 36,some (29,true),.q (.bin .lss (.t 30) (.t 35)),[]⟩,oq 37 (.pick (.t 29) (.t 36) (.v (.bool false)))]) (.cond (.t 37) (.seq (.ops [ oq 4 (.mv (.v (.int .i64 0))),oq 5 (.mv (.v (.bool false)))]) .ret) .skip)) (.seq (.seq (.ops [ oq 38 (.mv (.t 1)),oq 39 (.fa 2 (.t 2)),oq 40 (.ld none (.t 39)),oq 41 (.bin .geq (.t 38) (.t 40))]) (.cond (.t 41) (.ops [ oq 42 (.mv (.t 1)),oq 43 (.fa 3 (.t 2)),oq 44 (.ld none (.t 43)),oq 45 (.bin .sub (.t 42) (.t 44)),oq 1 (.mv (.t 45))]) .skip)) (.seq (.ops [ oq 46 (.mv (.t 1)),oq 4 (.mv (.t 46)),oq 5 (.mv (.v (.bool true)))]) .ret))) .skip)))))) (.seq (.seq (.ops [ oq 47 (.mv (.t 1)),oq 48 (.fa 2 (.t 2)),oq 49 (.ld none (.t 48)),oq 50 (.bin .geq (.t 47) (.t 49)),oq 51 (.mv (.t 50)),⟨some 52,some (51,true),.q (.mv (.t 1)),[]⟩,⟨some 53,some (51,true),.q (.fa 2 (.t 2)),[]⟩,⟨some 54,some (51,true),.q (.ld none (.t 53)),[]⟩,⟨some 55,some (51,true),.q (.fa 3 (.t 2)),[]⟩,⟨some 56,some (51,true),.q (.ld none (.t 55)),[]⟩,⟨some 57,some (51,true),.q (.bin .add (.t 54) (.t 56)),[]⟩,⟨some 58,some (51,true),.q (.bin .lss (.t 52) (.t 57)),[]⟩,oq 59 (.pick (.t 51) (.t 58) (.v (.bool false)))]) (.cond (.t 59) (.seq (.ops [ oq 60 (.mv (.t 1)),oq 61 (.fa 2 (.t 2)),oq 62 (.ld none (.t 61)),oq 63 (.bin .sub (.t 60) (.t 62)),oq 64 (.fa 4 (.t 2)),oq 65 (.ld none (.t 64)),oq 66 (.bin .add (.t 63) (.t 65)),oq 4 (.mv (.t 66)),oq 5 (.mv (.v (.bool true)))]) .ret) .skip)) (.seq (.seq (.ops [ oq 67 (.mv (.t 1)),oq 68 (.fa 2 (.t 2)),oq 69 (.ld none (.t 68)),oq 70 (.bin .geq (.t 67) (.t 69))]) (.cond (.t 70) (.ops [ oq 71 (.mv (.t 1)),oq 72 (.fa 3 (.t 2)),oq 73 (.ld none (.t 72)),oq 74 (.bin .sub (.t 71) (.t 73)),oq 1 (.mv (.t 74))]) .skip)) (.seq (.seq (.ops [ oq 75 (.mv (.t 1)),oq 76 (.fa 4 (.t 2)),oq 77 (.ld none (.t 76)),oq 78 (.bin .geq (.t 75) (.t 77))]) (.cond (.t 78) (.ops [ oq 79 (.mv (.t 1)),oq 80 (.fa 3 (.t 2)),oq 81 (.ld none (.t 80)),oq 82 (.bin .add (.t 79) (.t 81)),oq 1 (.mv (.t 82))]) .skip)) (.seq (.ops [ oq 83 (.mv (.t 1)),oq 4 (.mv (.t 83)),oq 5 (.mv (.v (.bool true)))]) .ret))))
def c72_49:ACode := .seq (.ops [ oe 2 (.box (.t 0)),oq 4 (.mv (.v (.int .i64 0))),oq 5 (.mv (.v (.bool false)))]) c72_48
@[go_sem] def c72_48_wp:=wp_of c72_48.eq_1
@[go_sem] def c72_49_wp:=wp_of c72_49.eq_1
def c72:AFn:=⟨84,[.t 4,.t 5],c72_49⟩
theorem c72_ok:compF Tryz.prog Tryz.f72=some c72:=by kernel_rfl
theorem a72 {args:List AV} {σ:ASt} {R:AV->ASt->Prop} (hl:args.length<=84) (h:c72_49.wp Tryz.prog (RetQ [.t 4,.t 5] R) (init args) σ):ACalls Tryz.prog 72 args σ R:=acalls_of Tryz.func72 c72_ok hl h
end Go.A
namespace Go.A
open Go.Proofs Go.Lib
structure Edt where
 cols:Bool
 kind:Int
 at':Int
 n:Int
 dst:Int
def Edt.cs (e:Edt):List AV := [.bool e.cols,.int .i64 e.kind,.int .i64 e.at',.int .i64 e.n,.int .i64 e.dst]
def Edt.av (e:Edt):AV := .agg e.cs
section
variable {e:Edt}
@[go_sem] theorem ed_0:e.cs[0]? = some (.bool e.cols):=id rfl
@[go_sem] theorem ed_1:e.cs[1]? = some (.int .i64 e.kind):=id rfl
@[go_sem] theorem ed_2:e.cs[2]? = some (.int .i64 e.at'):=id rfl
@[go_sem] theorem ed_3:e.cs[3]? = some (.int .i64 e.n):=id rfl
@[go_sem] theorem ed_4:e.cs[4]? = some (.int .i64 e.dst):=id rfl
@[go_sem] theorem ed_len:e.cs.length=5:=id rfl
@[go_sem] theorem ed_take:e.cs.take 5=e.cs:=id rfl
end
def Edt.most (e:Edt):Int:=if e.cols=true then 700 else 3000
def Edt.good (e:Edt) (c:Int):Bool:=
 if e.at'<0\/e.n<1\/c<0\/e.most<c then false
 else if e.kind=1 then decide (e.at'<=c/\e.n<=e.most-c)
 else if e.kind=2 then decide (e.n<c/\e.at'<=c-e.n)
 else if e.kind=3 then decide (e.n<=c/\e.at'<=c-e.n/\0<=e.dst/\e.dst<=c-e.n)
 else false
def ahead (p:Int) (d i:Int):Int:=if p<=i then i+d else i
def Edt.place (e:Edt) (i:Int):Int×Bool:=
 if e.kind=1 then (ahead e.at' e.n i,decide (ahead e.at' e.n i<e.most))
 else if e.at'<=i/\i<e.at'+e.n then (if e.kind=2 then (0,false) else (i-e.at'+e.dst,true))
 else if e.kind=2 then (ahead e.at' (-e.n) i,true)
 else (ahead e.dst e.n (ahead e.at' (-e.n) i),true)
structure Edt.fit (e:Edt):Prop where
 a0:0<=e.at'
 a1:e.at'<=3000
 n0:0<=e.n
 n1:e.n<=3000
 t:e.kind≠1->e.kind≠2->0<=e.dst/\e.dst<=3000
theorem Edt.good_fit {e:Edt} {c:Int} (h:e.good c=true):e.fit:=by
 unfold Edt.good at h
 split at h
 ·cases h
 rename_i h0
 have hm:e.most<=3000:=by unfold Edt.most;split<;>omega
 split at h
 ·have:=of_decide_eq_true h
  exact ⟨by omega,by omega,by omega,by omega,by omega⟩
 split at h
 ·have:=of_decide_eq_true h
  exact ⟨by omega,by omega,by omega,by omega,by omega⟩
 split at h
 ·have:=of_decide_eq_true h
  exact ⟨by omega,by omega,by omega,by omega,by omega⟩
 ·cases h
theorem shmost_ok (e:Edt):Pure Tryz.prog 35 [e.av] (.int .i64 e.most):=by
 intro σ
 obtain ⟨q,hq⟩:∃ q,e.most=q:=⟨_,rfl⟩
 rw [hq]
 unfold Edt.most at hq
 unfold Edt.av
 refine a35 (by simp) ?_
 simp (disch:=first|assumption|omega) only [go_sem]
 refine boxC_by rfl fun c hc=>?_
 cases hb:e.cols with
 | true=>
   rw [if_pos hb] at hq
   subst hq
   simp (disch:=first|assumption|omega) only [go_sem,Nat.reduceEqDiff,↓reduceIte,hb]
   exact retC_by (Drop.set hc) (.refl _) ⟨rfl,rfl⟩
 | false=>
   rw [if_neg (by simp [hb])] at hq
   subst hq
   simp (disch:=first|assumption|omega) only [go_sem,Nat.reduceEqDiff,↓reduceIte,hb]
   exact retC_by (Drop.set hc) (.refl _) ⟨rfl,rfl⟩
theorem most_rng (e:Edt):700<=e.most/\e.most<=3000:=by unfold Edt.most;split<;>omega
theorem shgood_ok (e:Edt) (c:Int):Pure Tryz.prog 9 [e.av,.int .i64 c] (.bool (e.good c)):=by
 intro σ
 have hm:=shmost_ok e
 have hr:=most_rng e
 obtain ⟨q,hq⟩:∃ q,e.good c=q:=⟨_,rfl⟩
 rw [hq]
 unfold Edt.good at hq
 generalize e.most=M at *
 unfold Edt.av at hm ⊢
 refine a9 (by simp) ?_
 simp (disch:=first|assumption|omega) only [go_sem]
 refine boxC_by rfl fun b hb=>?_
 by_cases h1:e.at'<0
 ·rw [if_pos (by omega)] at hq
  subst hq
  simp (disch:=first|assumption|omega) only [go_sem,Nat.reduceEqDiff,↓reduceIte,h1]
  exact retC_by (Drop.set hb) (.refl _) ⟨rfl,rfl⟩
 by_cases h2:e.n<1
 ·rw [if_pos (by omega)] at hq
  subst hq
  simp (disch:=first|assumption|omega) only [go_sem,Nat.reduceEqDiff,↓reduceIte,h1,h2]
  exact retC_by (Drop.set hb) (.refl _) ⟨rfl,rfl⟩
 by_cases h3:c<0
 ·rw [if_pos (by omega)] at hq
  subst hq
  simp (disch:=first|assumption|omega) only [go_sem,Nat.reduceEqDiff,↓reduceIte,h1,h2,h3]
  exact retC_by (Drop.set hb) (.refl _) ⟨rfl,rfl⟩
 by_cases h4:M<c
 ·rw [if_pos (by omega)] at hq
  subst hq
  simp (disch:=first|assumption|omega) only [go_sem,Nat.reduceEqDiff,Nat.reduceLeDiff,↓reduceIte,h1,h2,h3]
  refine hm.use ?_
  simp (disch:=first|assumption|omega) only [go_sem,Nat.reduceEqDiff,↓reduceIte,h4]
  exact retC_by (Drop.set hb) (.refl _) ⟨rfl,rfl⟩
 rw [if_neg (by omega)] at hq
 by_cases k1:e.kind=1
 ·rw [if_pos k1] at hq
  by_cases g1:e.at'<=c
  ·by_cases g2:e.n<=M-c
   ·rw [decide_eq_true ⟨g1,g2⟩] at hq
    subst hq
    simp (disch:=first|assumption|omega) only [go_sem,Nat.reduceEqDiff,Nat.reduceLeDiff,↓reduceIte,h1,h2,h3]
    refine hm.use ?_
    simp (disch:=first|assumption|omega) only [go_sem,Nat.reduceEqDiff,Nat.reduceLeDiff,↓reduceIte,h4,k1,g1]
    refine hm.use ?_
    simp (disch:=first|assumption|omega) only [go_sem,Nat.reduceEqDiff,↓reduceIte,forall_const,g2]
    exact retC_by (Drop.set hb) (.refl _) ⟨rfl,rfl⟩
   ·rw [decide_eq_false (fun h=>g2 h.2)] at hq
    subst hq
    simp (disch:=first|assumption|omega) only [go_sem,Nat.reduceEqDiff,Nat.reduceLeDiff,↓reduceIte,h1,h2,h3]
    refine hm.use ?_
    simp (disch:=first|assumption|omega) only [go_sem,Nat.reduceEqDiff,Nat.reduceLeDiff,↓reduceIte,h4,k1,g1]
    refine hm.use ?_
    simp (disch:=first|assumption|omega) only [go_sem,Nat.reduceEqDiff,↓reduceIte,forall_const,g2]
    exact retC_by (Drop.set hb) (.refl _) ⟨rfl,rfl⟩
  ·rw [decide_eq_false (fun h=>g1 h.1)] at hq
   subst hq
   simp (disch:=first|assumption|omega) only [go_sem,Nat.reduceEqDiff,Nat.reduceLeDiff,↓reduceIte,h1,h2,h3]
   refine hm.use ?_
   simp (disch:=first|assumption|omega) only [go_sem,Nat.reduceEqDiff,↓reduceIte,h4,k1,g1]
   exact retC_by (Drop.set hb) (.refl _) ⟨rfl,rfl⟩
 rw [if_neg k1] at hq
 by_cases k2:e.kind=2
 ·rw [if_pos k2] at hq
  by_cases g1:e.n<c
  ·by_cases g2:e.at'<=c-e.n
   ·rw [decide_eq_true ⟨g1,g2⟩] at hq
    subst hq
    simp (disch:=first|assumption|omega) only [go_sem,Nat.reduceEqDiff,Nat.reduceLeDiff,↓reduceIte,h1,h2,h3]
    refine hm.use ?_
    simp (disch:=first|assumption|omega) only [go_sem,Nat.reduceEqDiff,Int.reduceEq,↓reduceIte,h4,k2,g1,g2]
    exact retC_by (Drop.set hb) (.refl _) ⟨rfl,rfl⟩
   ·rw [decide_eq_false (fun h=>g2 h.2)] at hq
    subst hq
    simp (disch:=first|assumption|omega) only [go_sem,Nat.reduceEqDiff,Nat.reduceLeDiff,↓reduceIte,h1,h2,h3]
    refine hm.use ?_
    simp (disch:=first|assumption|omega) only [go_sem,Nat.reduceEqDiff,Int.reduceEq,↓reduceIte,h4,k2,g1,g2]
    exact retC_by (Drop.set hb) (.refl _) ⟨rfl,rfl⟩
  ·rw [decide_eq_false (fun h=>g1 h.1)] at hq
   subst hq
   simp (disch:=first|assumption|omega) only [go_sem,Nat.reduceEqDiff,Nat.reduceLeDiff,↓reduceIte,h1,h2,h3]
   refine hm.use ?_
   simp (disch:=first|assumption|omega) only [go_sem,Nat.reduceEqDiff,Int.reduceEq,↓reduceIte,h4,k2,g1]
   exact retC_by (Drop.set hb) (.refl _) ⟨rfl,rfl⟩
 rw [if_neg k2] at hq
 by_cases k3:e.kind=3
 ·rw [if_pos k3] at hq
  by_cases g1:e.n<=c
  ·by_cases g2:e.at'<=c-e.n
   ·by_cases g3:0<=e.dst
    ·by_cases g4:e.dst<=c-e.n
     ·rw [decide_eq_true ⟨g1,g2,g3,g4⟩] at hq
      subst hq
      simp (disch:=first|assumption|omega) only [go_sem,Nat.reduceEqDiff,Nat.reduceLeDiff,↓reduceIte,h1,h2,h3]
      refine hm.use ?_
      simp (disch:=first|assumption|omega) only [go_sem,Nat.reduceEqDiff,Int.reduceEq,↓reduceIte,h4,k3,g1,g2,g3,g4]
      exact retC_by (Drop.set hb) (.refl _) ⟨rfl,rfl⟩
     ·rw [decide_eq_false (fun h=>g4 h.2.2.2)] at hq
      subst hq
      simp (disch:=first|assumption|omega) only [go_sem,Nat.reduceEqDiff,Nat.reduceLeDiff,↓reduceIte,h1,h2,h3]
      refine hm.use ?_
      simp (disch:=first|assumption|omega) only [go_sem,Nat.reduceEqDiff,Int.reduceEq,↓reduceIte,h4,k3,g1,g2,g3,g4]
      exact retC_by (Drop.set hb) (.refl _) ⟨rfl,rfl⟩
    ·rw [decide_eq_false (fun h=>g3 h.2.2.1)] at hq
     subst hq
     simp (disch:=first|assumption|omega) only [go_sem,Nat.reduceEqDiff,Nat.reduceLeDiff,↓reduceIte,h1,h2,h3]
     refine hm.use ?_
     simp (disch:=first|assumption|omega) only [go_sem,Nat.reduceEqDiff,Int.reduceEq,↓reduceIte,h4,k3,g1,g2,g3]
     exact retC_by (Drop.set hb) (.refl _) ⟨rfl,rfl⟩
   ·rw [decide_eq_false (fun h=>g2 h.2.1)] at hq
    subst hq
    simp (disch:=first|assumption|omega) only [go_sem,Nat.reduceEqDiff,Nat.reduceLeDiff,↓reduceIte,h1,h2,h3]
    refine hm.use ?_
    simp (disch:=first|assumption|omega) only [go_sem,Nat.reduceEqDiff,Int.reduceEq,↓reduceIte,h4,k3,g1,g2]
    exact retC_by (Drop.set hb) (.refl _) ⟨rfl,rfl⟩
  ·rw [decide_eq_false (fun h=>g1 h.1)] at hq
   subst hq
   simp (disch:=first|assumption|omega) only [go_sem,Nat.reduceEqDiff,Nat.reduceLeDiff,↓reduceIte,h1,h2,h3]
   refine hm.use ?_
   simp (disch:=first|assumption|omega) only [go_sem,Nat.reduceEqDiff,Int.reduceEq,↓reduceIte,h4,k3,g1]
   exact retC_by (Drop.set hb) (.refl _) ⟨rfl,rfl⟩
 ·rw [if_neg k3] at hq
  subst hq
  simp (disch:=first|assumption|omega) only [go_sem,Nat.reduceEqDiff,Nat.reduceLeDiff,↓reduceIte,h1,h2,h3]
  refine hm.use ?_
  simp (disch:=first|assumption|omega) only [go_sem,Nat.reduceEqDiff,↓reduceIte,h4,k1,k2,k3]
  exact retC_by (Drop.set hb) (.refl _) ⟨rfl,rfl⟩
theorem shplace_ok (e:Edt) (he:e.fit) (i:Int) (h0:0<=i) (h1:i<=10000):Pure Tryz.prog 72 [e.av,.int .i64 i] (.tuple [.int .i64 (e.place i).1,.bool (e.place i).2]):=by
 intro σ
 have hm:=shmost_ok e
 have hr:=most_rng e
 obtain ⟨a0,a1,n0,n1,ht⟩:=he
 obtain ⟨q,hq⟩:∃ q,e.place i=q:=⟨_,rfl⟩
 rw [hq]
 unfold Edt.place ahead at hq
 generalize e.most=M at *
 unfold Edt.av at hm ⊢
 refine a72 (by simp) ?_
 simp (disch:=first|assumption|omega) only [go_sem]
 refine boxC_by rfl fun b hb=>?_
 by_cases k1:e.kind=1
 ·rw [if_pos k1] at hq
  by_cases g1:e.at'<=i
  ·rw [if_pos g1] at hq
   subst hq
   simp (disch:=first|assumption|omega) only [go_sem,Nat.reduceEqDiff,Nat.reduceLeDiff,↓reduceIte,k1,g1]
   refine hm.use ?_
   simp (disch:=first|assumption|omega) only [go_sem,Nat.reduceEqDiff,↓reduceIte]
   exact retC_by (Drop.set hb) (.refl _) ⟨rfl,rfl⟩
  ·rw [if_neg g1] at hq
   subst hq
   simp (disch:=first|assumption|omega) only [go_sem,Nat.reduceEqDiff,Nat.reduceLeDiff,↓reduceIte,k1,g1]
   refine hm.use ?_
   simp (disch:=first|assumption|omega) only [go_sem,Nat.reduceEqDiff,↓reduceIte]
   exact retC_by (Drop.set hb) (.refl _) ⟨rfl,rfl⟩
 rw [if_neg k1] at hq
 by_cases k2:e.kind=2
 ·rw [if_pos k2,if_pos k2] at hq
  by_cases g1:e.at'<=i
  ·by_cases g2:i<e.at'+e.n
   ·rw [if_pos ⟨g1,g2⟩] at hq
    subst hq
    simp (disch:=first|assumption|omega) only [go_sem,Nat.reduceEqDiff,Int.reduceEq,↓reduceIte,k2,g1,g2]
    exact retC_by (Drop.set hb) (.refl _) ⟨rfl,rfl⟩
   ·rw [if_neg (fun h=>g2 h.2),if_pos g1] at hq
    subst hq
    simp (disch:=first|assumption|omega) only [go_sem,Nat.reduceEqDiff,Int.reduceEq,↓reduceIte,k2,g1,g2]
    exact retC_by (Drop.set hb) (.refl _) ⟨rfl,rfl⟩
  ·rw [if_neg (fun h=>g1 h.1),if_neg g1] at hq
   subst hq
   simp (disch:=first|assumption|omega) only [go_sem,Nat.reduceEqDiff,Int.reduceEq,↓reduceIte,k2,g1]
   exact retC_by (Drop.set hb) (.refl _) ⟨rfl,rfl⟩
 rw [if_neg k2,if_neg k2] at hq
 have ht:=ht k1 k2
 by_cases g1:e.at'<=i
 ·by_cases g2:i<e.at'+e.n
  ·rw [if_pos ⟨g1,g2⟩] at hq
   subst hq
   simp (disch:=first|assumption|omega) only [go_sem,Nat.reduceEqDiff,↓reduceIte,k1,k2,g1,g2]
   exact retC_by (Drop.set hb) (.refl _) ⟨rfl,rfl⟩
  ·rw [if_neg (fun h=>g2 h.2),if_pos g1] at hq
   by_cases g3:e.dst<=i + -e.n
   ·rw [if_pos g3] at hq
    subst hq
    have g3':e.dst<=i-e.n:=by omega
    simp (disch:=first|assumption|omega) only [go_sem,Nat.reduceEqDiff,↓reduceIte,k1,k2,g1,g2,g3']
    exact retC_by (Drop.set hb) (.refl _) ⟨rfl,rfl⟩
   ·rw [if_neg g3] at hq
    subst hq
    have g3':¬ e.dst<=i-e.n:=by omega
    simp (disch:=first|assumption|omega) only [go_sem,Nat.reduceEqDiff,↓reduceIte,k1,k2,g1,g2,g3']
    exact retC_by (Drop.set hb) (.refl _) ⟨rfl,rfl⟩
 ·rw [if_neg (fun h=>g1 h.1),if_neg g1] at hq
  by_cases g3:e.dst<=i
  ·rw [if_pos g3] at hq
   subst hq
   simp (disch:=first|assumption|omega) only [go_sem,Nat.reduceEqDiff,↓reduceIte,k1,k2,g1,g3]
   exact retC_by (Drop.set hb) (.refl _) ⟨rfl,rfl⟩
  ·rw [if_neg g3] at hq
   subst hq
   simp (disch:=first|assumption|omega) only [go_sem,Nat.reduceEqDiff,↓reduceIte,k1,k2,g1,g3]
   exact retC_by (Drop.set hb) (.refl _) ⟨rfl,rfl⟩
theorem shgone_ok:Pure Tryz.prog 43 [] (Nd.mk 4 40000 [] .zero .zero []).av:=by
 intro σ
 refine a43 (by simp) ?_
 rw [Nd.av_cs]
 simp (disch:=first|assumption|omega) only [go_sem]
 refine allocC_by fun b hb=>?_
 simp (disch:=first|assumption|omega) only [go_sem,reduceCtorEq,Nat.reduceAdd,Nat.reduceLeDiff,↓reduceIte,Bool.true_and,ASt.set_set]
 refine retC_by (Drop.set hb) ?_ ⟨rfl,rfl⟩
 exact Fz.agg (.cons (.refl _) (.cons (.refl _) (.cons (.refl _) (.cons (.refl _) (.cons (.refl _) (.cons (.refl _) (.cons (.refl _) (.cons (.refl _) (.cons (.refl _) (.cons (.refl _) (.cons (.refl _) (.cons (.sl _ _) .nil))))))))))))
end Go.A
namespace Go.A
open Go.Proofs Go.Lib
def MapG (P:Nd->Prop) (F:AV) (f:Nd->Nd) (I:ASt->Prop):Prop:=∃ g cap,F = .func (.func g) [] cap/\okFn Tryz.prog g=true/\(∀ σ b r,I σ->σ b=none->I (σ.set b r)) ∧
 ∀ x σ,I σ->P x->(x.op=5\/x.op=6)->ACalls Tryz.prog g (x.av::cap) σ fun v σ'=>v=(f x).av/\σ'=σ
theorem mapg_le (F:AV) (f:Nd->Nd) (I:ASt->Prop) (P:Nd->Prop) (hP:∀ op m s a b ks,P (.mk op m s a b ks)->∀ x∈ks,P x) (hF:MapG P F f I):∀ (k:Nat) (n:Nd),n.size<=k->n.size<=1000000000->P n->∀ σ,I σ->ACalls Tryz.prog 37 [n.av,F] σ fun v σ'=>v=(Nd.map f n).av/\σ'=σ
 | 0,n,hk,_,_=>by have:=n.size_pos;omega
 | k+1,n,hk,hb,hp=>by
   intro σ hI
   have ih:=mapg_le F f I P hP hF k
   obtain ⟨g,cap,rfl,hok,hst,hcall⟩:=hF
   obtain ⟨op,m,s,a,b,ks⟩:=n
   have hc0:=fun τ hτ=>hcall (.mk op m s a b ks) τ hτ hp
   rw [Nd.size] at hk hb
   have hlen:=sizes_len ks
   rw [Nd.map,Nd.maps_map]
   have hav:=Nd.av_cs op m s a b ks
   by_cases ho:op=5\/op=6
   ·rw [if_pos ho]
    obtain ⟨w,hw⟩:∃ w,(f (Nd.mk op m s a b ks))=w:=⟨_,rfl⟩
    rw [hw,hav] at hc0
    rw [hw,hav]
    obtain ⟨wo,wm,ws,wa,wb,wk⟩:=w
    rw [Nd.av_cs] at hc0 ⊢
    generalize ks.map Nd.av=L at *
    generalize wk.map Nd.av=WL at *
    refine a37 (by simp) ?_
    simp (disch:=first|assumption|omega) only [go_sem]
    refine boxC_by rfl fun c hc=>?_
    simp (disch:=first|assumption|omega) only [go_sem]
    refine allocC_by fun d hd=>?_
    have hd0:=hd
    repeat (with_reducible replace hd:=set_none hd;obtain ⟨_,_,hd⟩:=hd)
    have h0:=hc0 _ (hst _ _ (some (.obj zeroC)) (hst _ _ (some (.obj (Nd.cs op m s a b L))) hI hc) hd0) ho
    unfold zeroC Nd.cs at h0
    rcases ho with rfl|rfl
    ·simp (disch:=first|assumption|omega) only [go_sem,Nat.reduceEqDiff,Nat.reduceLeDiff,↓reduceIte]
     refine ⟨hok,?_⟩
     unfold Nd.cs
     refine h0.mono ?_
     rintro v σ' ⟨rfl,rfl⟩
     simp (disch:=first|assumption|omega) only [go_sem,Nat.reduceEqDiff,Nat.reduceAdd,Nat.reduceLeDiff,↓reduceIte,Bool.true_and,ASt.set_set]
     exact retC_by ((Drop.set hc).off (by assumption)) (.refl _) ⟨rfl,rfl⟩
    ·simp (disch:=first|assumption|omega) only [go_sem,Nat.reduceEqDiff,Nat.reduceLeDiff,Int.reduceEq,↓reduceIte]
     refine ⟨hok,?_⟩
     unfold Nd.cs
     refine h0.mono ?_
     rintro v σ' ⟨rfl,rfl⟩
     simp (disch:=first|assumption|omega) only [go_sem,Nat.reduceEqDiff,Nat.reduceAdd,Nat.reduceLeDiff,↓reduceIte,Bool.true_and,ASt.set_set]
     exact retC_by ((Drop.set hc).off (by assumption)) (.refl _) ⟨rfl,rfl⟩
   ·rw [if_neg ho,hav,Nd.av_cs]
    have o5:op≠5:=by omega
    have o6:op≠6:=by omega
    have hmm:(ks.map (Nd.map f)).map Nd.av=ks.map fun x=>(Nd.map f x).av:=by rw [List.map_map];rfl
    rw [hmm]
    have hks:∀ x∈ks,∀ σ,I σ->ACalls Tryz.prog 37 [x.av,.func (.func g) [] cap] σ fun v σ'=>v=(Nd.map f x).av/\σ'=σ:=fun x hx=>by
     have:=Nd.size_kid hx
     exact ih x (by omega) (by omega) (hP _ _ _ _ _ _ hp x hx)
    refine a37 (by simp) ?_
    simp (disch:=first|assumption|omega) only [go_sem]
    refine boxC_by rfl fun c hc=>?_
    simp (disch:=first|assumption|omega) only [go_sem]
    refine allocC_by fun d hd=>?_
    have hd0:=hd
    repeat (with_reducible replace hd:=set_none hd;obtain ⟨_,_,hd⟩:=hd)
    by_cases h0:ks = []
    ·subst h0
     simp only [List.map_nil]
     simp (disch:=first|assumption|omega) only [go_sem,Nat.reduceEqDiff,Nat.reduceAdd,Nat.reduceLeDiff,Int.reduceLT,↓reduceIte,o5,o6,ASt.set_set]
     exact retC_by ((Drop.set hc).off (by assumption)) (.refl _) ⟨rfl,rfl⟩
    have hpos:0<ks.length:=by
     rcases ks with _|⟨_,_⟩
     ·exact absurd rfl h0
     ·simp
    have hpos':(0:Int)<ks.length:=by omega
    obtain ⟨G,hG⟩:∃ G,G=ACode.wp Tryz.prog c37_22:=⟨_,rfl⟩
    simp (disch:=first|assumption|omega) only [go_sem,Nat.reduceEqDiff,↓reduceIte,o5,o6,hpos']
    refine mkb_own (by omega) (by omega) (by omega) (by omega) fun e he=>?_
    have he0:=he
    repeat (with_reducible replace he:=set_none he;obtain ⟨_,_,he⟩:=he)
    rw [Int.toNat_natCast]
    have hz12:([.int .i64 0,.int .i64 0,.str [],.int .i64 0,.int .i64 0,.bool false,.bool false,.int .i64 0,.int .i64 0,.bool false,.bool false,.sl .full []]:List AV).length=12:=rfl
    have hrz:=rowAt_zero f ks [.int .i64 0,.int .i64 0,.str [],.int .i64 0,.int .i64 0,.bool false,.bool false,.int .i64 0,.int .i64 0,.bool false,.bool false,.sl .full []]
    have hrl:∀ i,i<=ks.length->(rowAt f ks [.int .i64 0,.int .i64 0,.str [],.int .i64 0,.int .i64 0,.bool false,.bool false,.int .i64 0,.int .i64 0,.bool false,.bool false,.sl .full []] i).length=ks.length*12:=fun i hi=>rowAt_len f ks hz12 hi
    have hrs:=fun i x hx=>rowAt_step f ks hz12 (i:=i) (x:=x) hx
    have hre:=rowAt_end f ks [.int .i64 0,.int .i64 0,.str [],.int .i64 0,.int .i64 0,.bool false,.bool false,.int .i64 0,.int .i64 0,.bool false,.bool false,.sl .full []]
    rw [<-hrz]
    generalize rowAt f ks [.int .i64 0,.int .i64 0,.str [],.int .i64 0,.int .i64 0,.bool false,.bool false,.int .i64 0,.int .i64 0,.bool false,.bool false,.sl .full []]=q at *
    have nce:c≠e:=by assumption
    have nde:d≠e:=by assumption
    have ncd:c≠d:=by assumption
    have hII:∀ X Y Z:Option Role,I (((σ.set c X).set d Y).set e Z):=fun X Y Z=>hst _ _ _ (hst _ _ _ (hst _ _ _ hI hc) (by rw [ASt.set_ne (Ne.symm ncd)];assumption)) (by rw [ASt.set_ne (Ne.symm nde),ASt.set_ne (Ne.symm nce)];assumption)
    have hDD:∀ X Y Z:Option Role,Drop (((σ.set c X).set d Y).set e Z) σ:=fun X Y Z=>((Drop.set hc).off (by assumption)).off (by assumption)
    simp (disch:=first|assumption|omega) only [go_sem,Nat.reduceEqDiff,↓reduceIte,←hG]
    refine wp_loop_by (fun (i:Nat) a1 s2=>i<=ks.length/\(a1 1 = .func (.func g) [] cap/\a1 2 = .ptr c 0/\a1 4 = .ptr d 0/\a1 5 = .msl e 0 ks.length ks.length/\a1 28 = .sl .shr (ks.map Nd.av)/\a1 29 = .int .i64 ks.length/\a1 30 = .int .i64 i) ∧
     s2=((σ.set c (some (.obj (Nd.cs op m s a b (ks.map Nd.av))))).set d (some (.obj [.int .i64 0,.int .i64 0,.str [],.int .i64 0,.int .i64 0,.bool false,.bool false,.int .i64 0,.int .i64 0,.bool false,.bool false,.sl .full []]))).set e (some (.obj (q i)))) (fun i=>ks.length-i) 0 (Dr.now ⟨Nat.zero_le _,?_,rfl⟩) ?_
    ·simp (disch:=first|assumption|omega) only [go_sem,Nat.reduceEqDiff,↓reduceIte]
    rintro i a1 s2 ⟨hi,hf,rfl⟩
    by_cases hlt:i<ks.length
    ·have hlt':(i:Int)<ks.length:=by omega
     have hx : ks[i]? = some (ks[i]'hlt) := List.getElem?_eq_getElem hlt
     have hkx:=hks _ (List.getElem_mem hlt)
     obtain ⟨x, hxe⟩ : ∃ x, ks[i]'hlt = x := ⟨_, rfl⟩
     rw [hxe] at hx hkx
     have hmx:=Nd.get hx
     have hqs:=hrs i x hx
     have hql:=hrl i (by omega)
     obtain ⟨y,hy⟩:∃ y,Nd.map f x=y:=⟨_,rfl⟩
     rw [hy] at hkx hqs
     obtain ⟨xo,xm,xs,xa,xb,xk⟩:=x
     obtain ⟨yo,ym,ys,ya,yb,yk⟩:=y
     rw [Nd.av_cs] at hmx
     rw [Nd.av_cs,Nd.av_cs] at hkx
     rw [Nd.av_cs,cells_agg] at hqs
     generalize xk.map Nd.av=XK at *
     generalize yk.map Nd.av=YK at *
     generalize hXL:ks.map Nd.av=XL at *
     simp (disch:=first|assumption|omega) only [go_sem,Nat.reduceEqDiff,Nat.reduceLeDiff,↓reduceIte,hf,hlt',hmx]
     refine allocC_by fun t ht=>?_
     have ht0:=ht
     repeat (with_reducible replace ht:=set_none ht;obtain ⟨_,_,ht⟩:=ht)
     have hk1:=hkx _ (hst _ _ (some (.obj (Nd.cs xo xm xs xa xb XK))) (hII _ _ _) ht0)
     simp (disch:=first|assumption|omega) only [go_sem,Nat.reduceEqDiff,Nat.reduceAdd,Nat.reduceLeDiff,↓reduceIte,hf,ASt.set_set]
     refine hk1.mono ?_
     rintro v σ' ⟨rfl,rfl⟩
     have hb1:i*12+12<=(q i).length:=by rw [hql];omega
     have het:e≠t:=by assumption
     have hsw:∀ (ρ:ASt) (X Y Z:Option Role),((ρ.set e X).set t Y).set e Z=(ρ.set e Z).set t Y:=fun _ _ _ _=>set_mid het
     simp (disch:=first|assumption|omega) only [go_sem,Nat.reduceEqDiff,↓reduceIte,hf,hb1,hqs,hsw]
     refine ⟨i+1,by dsimp only;omega,Dr.drop (Drop.set (by rw [ASt.set_ne (Ne.symm het)];rw [ASt.set_ne (Ne.symm het)] at ht0;exact ht0)) ⟨by omega,?_,rfl⟩⟩
     simp (disch:=first|assumption|omega) only [go_sem,Nat.reduceEqDiff,↓reduceIte,hf]
    ·have hlt':¬ (i:Int)<ks.length:=by omega
     obtain rfl:i=ks.length:=by omega
     rw [hre]
     simp (disch:=first|assumption|omega) only [go_sem,↓reduceIte,hf,hlt']
     rw [hG]
     have hsw1:∀ (ρ:ASt) (X Y Z W:Option Role),(((ρ.set c X).set d Y).set e Z).set c W=((ρ.set c W).set d Y).set e Z:=fun ρ X Y Z W=>by rw [set_swap (Ne.symm nce),set_mid ncd]
     have hsw2:∀ (ρ:ASt) (Y Z W:Option Role),((ρ.set d Y).set e Z).set d W=(ρ.set d W).set e Z:=fun ρ Y Z W=>set_mid nde
     unfold Nd.cs
     simp (disch:=first|assumption|omega) only [go_sem,Nat.reduceEqDiff,Nat.reduceAdd,Nat.reduceLeDiff,↓reduceIte,Bool.true_and,hf,hsw1,hsw2]
     refine retC_by (r := .agg [.int .i64 op,.int .i64 m,.str s,.int .i64 a.row,.int .i64 a.col,.bool a.absRow,.bool a.absCol,.int .i64 b.row,.int .i64 b.col,.bool b.absRow,.bool b.absCol,.sl .shr (ks.map fun x=>(Nd.map f x).av)]) (hDD _ _ _) ?_ ⟨rfl,rfl⟩
     refine Fz.agg ?_
     refine .cons (.refl _) (.cons (.refl _) (.cons (.refl _) (.cons (.refl _) (.cons (.refl _) (.cons (.refl _) (.cons (.refl _) (.cons (.refl _) (.cons (.refl _) (.cons (.refl _) (.cons (.refl _) (.cons ?_ .nil)))))))))))
     refine .msl 0 _ _ 12 _ (ASt.set_same _ _ _) (by assumption) (by simp) (Nat.le_refl _) (fun y hy=>?_) ?_
     ·obtain ⟨z,_,rfl⟩:=List.mem_map.1 hy
      exact Nd.av_len _
     ·rw [List.drop_zero,List.take_of_length_le]
      rw [lens_flat (s:=12)]
      ·simp
      ·intro y hy
       obtain ⟨z,_,rfl⟩:=List.mem_map.1 hy
       exact Nd.av_len _
end Go.A
namespace Go.A
open Go.Proofs
/-! 11: (tabular/shift.Edit).Tree -/
def c11_3:ACode := .seq (.ops [ oe 2 (.box (.t 0)),oe 3 (.box (.t 1)),oe 4 (.alloc [(.int .i64 0),(.int .i64 0),(.str []),(.int .i64 0),(.int .i64 0),(.bool false),(.bool false),(.int .i64 0),(.int .i64 0),(.bool false),(.bool false),(.sl .full [])])]) (.seq (.ops [ oq 5 (.ld (some 12) (.t 3)),oq 6 (.mkf (.func 38) [] [(.t 2)]),oe 7 (.call 37 [(.t 5),(.t 6)]),oz (.store 12 (.t 4) (.t 7))]) .ret)
@[go_sem] def c11_3_wp:=wp_of c11_3.eq_1
def c11:AFn:=⟨8,[.c 4 (some 12)],c11_3⟩
theorem c11_ok:compF Tryz.prog Tryz.f11=some c11:=by kernel_rfl
theorem a11 {args:List AV} {σ:ASt} {R:AV->ASt->Prop} (hl:args.length<=8) (h:c11_3.wp Tryz.prog (RetQ [.c 4 (some 12)] R) (init args) σ):ACalls Tryz.prog 11 args σ R:=acalls_of Tryz.func11 c11_ok hl h
/-! 38: (tabular/shift.Edit).Tree$1 -/
def c38_9:ACode := .seq (.ops [ oe 2 (.box (.t 0)),oe 3 (.alloc [(.int .i64 0),(.int .i64 0),(.str []),(.int .i64 0),(.int .i64 0),(.bool false),(.bool false),(.int .i64 0),(.int .i64 0),(.bool false),(.bool false),(.sl .full [])])]) (.seq (.seq (.ops [ oq 4 (.fa 0 (.t 2)),oq 5 (.ld none (.t 4)),oq 6 (.bin .eql (.t 5) (.v (.int .i64 5)))]) (.cond (.t 6) (.seq (.ops [ oq 7 (.ld (some 5) (.t 1)),oq 8 (.ld (some 12) (.t 2)),oe 9 (.call 39 [(.t 7),(.t 8)]),oz (.store 12 (.t 3) (.t 9))]) .ret) .skip)) (.seq (.ops [ oq 10 (.ld (some 5) (.t 1)),oq 11 (.ld (some 12) (.t 2)),oe 12 (.call 40 [(.t 10),(.t 11)]),oz (.store 12 (.t 3) (.t 12))]) .ret))
@[go_sem] def c38_9_wp:=wp_of c38_9.eq_1
def c38:AFn:=⟨13,[.c 3 (some 12)],c38_9⟩
theorem c38_ok:compF Tryz.prog Tryz.f38=some c38:=by kernel_rfl
theorem a38 {args:List AV} {σ:ASt} {R:AV->ASt->Prop} (hl:args.length<=13) (h:c38_9.wp Tryz.prog (RetQ [.c 3 (some 12)] R) (init args) σ):ACalls Tryz.prog 38 args σ R:=acalls_of Tryz.func38 c38_ok hl h
/-! 39: (tabular/shift.Edit).cell -/
def c39_20:ACode := .seq (.ops [ oe 2 (.box (.t 0)),oe 3 (.box (.t 1)),oe 4 (.alloc [(.int .i64 0),(.int .i64 0),(.str []),(.int .i64 0),(.int .i64 0),(.bool false),(.bool false),(.int .i64 0),(.int .i64 0),(.bool false),(.bool false),(.sl .full [])])]) (.seq (.ops [ oq 8 (.fa 3 (.t 3)),oq 9 (.fa 0 (.t 8)),oq 5 (.mv (.t 9))]) (.seq (.seq (.ops [ oq 10 (.fa 0 (.t 2)),oq 11 (.ld none (.t 10))]) (.cond (.t 11) (.ops [ oq 12 (.fa 3 (.t 3)),oq 13 (.fa 1 (.t 12)),oq 5 (.mv (.t 13))]) .skip)) (.seq (.ops [ oq 15 (.ld (some 5) (.t 2)),oq 16 (.mv (.t 5)),oq 17 (.nc (.t 16)),oq 18 (.ld none (.t 17)),oe 19 (.call 72 [(.t 15),(.t 18)]),oq 14 (.mv (.t 19)),oq 20 (.ext 0 (.t 14)),oq 21 (.ext 1 (.t 14)),oq 6 (.mv (.t 20)),oq 7 (.mv (.t 21))]) (.seq (.seq (.ops [ oq 22 (.mv (.t 7)),oq 23 (.un .not (.t 22))]) (.cond (.t 23) (.seq (.ops [ oe 24 (.call 43 []),oz (.store 12 (.t 4) (.t 24))]) .ret) .skip)) (.seq (.ops [ oq 25 (.mv (.t 5)),oq 26 (.mv (.t 6)),oq 27 (.nc (.t 25)),oz (.store 1 (.t 27) (.t 26))]) (.seq (.ops [ oq 28 (.ld (some 12) (.t 3)),oz (.store 12 (.t 4) (.t 28))]) .ret))))))
@[go_sem] def c39_20_wp:=wp_of c39_20.eq_1
def c39:AFn:=⟨29,[.c 4 (some 12)],c39_20⟩
theorem c39_ok:compF Tryz.prog Tryz.f39=some c39:=by kernel_rfl
theorem a39 {args:List AV} {σ:ASt} {R:AV->ASt->Prop} (hl:args.length<=29) (h:c39_20.wp Tryz.prog (RetQ [.c 4 (some 12)] R) (init args) σ):ACalls Tryz.prog 39 args σ R:=acalls_of Tryz.func39 c39_ok hl h
/-! 40: (tabular/shift.Edit).area -/
def c40_27:ACode := .seq (.ops [ oe 2 (.box (.t 0)),oe 3 (.box (.t 1)),oe 4 (.alloc [(.int .i64 0),(.int .i64 0),(.str []),(.int .i64 0),(.int .i64 0),(.bool false),(.bool false),(.int .i64 0),(.int .i64 0),(.bool false),(.bool false),(.sl .full [])])]) (.seq (.ops [ oq 11 (.fa 3 (.t 3)),oq 12 (.fa 0 (.t 11)),oq 13 (.fa 7 (.t 3)),oq 14 (.fa 0 (.t 13)),oq 5 (.mv (.t 12)),oq 6 (.mv (.t 14))]) (.seq (.seq (.ops [ oq 15 (.fa 0 (.t 2)),oq 16 (.ld none (.t 15))]) (.cond (.t 16) (.ops [ oq 17 (.fa 3 (.t 3)),oq 18 (.fa 1 (.t 17)),oq 19 (.fa 7 (.t 3)),oq 20 (.fa 1 (.t 19)),oq 5 (.mv (.t 18)),oq 6 (.mv (.t 20))]) .skip)) (.seq (.ops [ oq 21 (.mv (.t 5)),oq 22 (.nc (.t 21)),oq 23 (.ld none (.t 22)),oq 24 (.mv (.t 6)),oq 25 (.nc (.t 24)),oq 26 (.ld none (.t 25)),oq 27 (.bin .gtr (.t 23) (.t 26)),oq 7 (.mv (.t 27))]) (.seq (.ops [ oq 29 (.ld (some 5) (.t 2)),oq 30 (.mv (.t 5)),oq 31 (.nc (.t 30)),oq 32 (.ld none (.t 31)),oq 33 (.mv (.t 6)),oq 34 (.nc (.t 33)),oq 35 (.ld none (.t 34)),oq 36 (.mnx false (.t 32) (.t 35)),oq 37 (.mv (.t 5)),oq 38 (.nc (.t 37)),oq 39 (.ld none (.t 38)),oq 40 (.mv (.t 6)),oq 41 (.nc (.t 40)),oq 42 (.ld none (.t 41)),oq 43 (.mnx true (.t 39) (.t 42)),oe 44 (.call 73 [(.t 29),(.t 36),(.t 43)]),oq 28 (.mv (.t 44)),oq 45 (.ext 0 (.t 28)),oq 46 (.ext 1 (.t 28)),oq 47 (.ext 2 (.t 28)),oq 8 (.mv (.t 45)),oq 9 (.mv (.t 46)),oq 10 (.mv (.t 47))]) (.seq (.seq (.ops [ oq 48 (.mv (.t 10)),oq 49 (.un .not (.t 48))]) (.cond (.t 49) (.seq (.ops [ oe 50 (.call 43 []),oz (.store 12 (.t 4) (.t 50))]) .ret) .skip)) (.seq (.seq (.ops [ oq 51 (.mv (.t 7))]) (.cond (.t 51) (.ops [ oq 52 (.mv (.t 9)),oq 53 (.mv (.t 8)),oq 8 (.mv (.t 52)),oq 9 (.mv (.t 53))]) .skip)) (.seq (.ops [ oq 54 (.mv (.t 5)),oq 55 (.mv (.t 6)),oq 56 (.mv (.t 8)),oq 57 (.mv (.t 9)),oq 58 (.nc (.t 54)),oz (.store 1 (.t 58) (.t 56)),oq 59 (.nc (.t 55)),oz (.store 1 (.t 59) (.t 57))]) (.seq (.ops [ oq 60 (.ld (some 12) (.t 3)),oz (.store 12 (.t 4) (.t 60))]) .ret))))))))
@[go_sem] def c40_27_wp:=wp_of c40_27.eq_1
def c40:AFn:=⟨61,[.c 4 (some 12)],c40_27⟩
theorem c40_ok:compF Tryz.prog Tryz.f40=some c40:=by kernel_rfl
theorem a40 {args:List AV} {σ:ASt} {R:AV->ASt->Prop} (hl:args.length<=61) (h:c40_27.wp Tryz.prog (RetQ [.c 4 (some 12)] R) (init args) σ):ACalls Tryz.prog 40 args σ R:=acalls_of Tryz.func40 c40_ok hl h
/-! 73: (tabular/shift.Edit).Span -/
def c73_38:ACode := .cond (.t 18) (.seq (.ops [ oq 21 (.ld (some 5) (.t 3)),oq 22 (.mv (.t 1)),oe 23 (.call 72 [(.t 21),(.t 22)]),oq 20 (.mv (.t 23)),oq 24 (.ext 0 (.t 20)),oq 25 (.ext 1 (.t 20)),oq 9 (.mv (.t 24)),oq 10 (.mv (.t 25))]) (.seq (.seq (.ops [ oq 26 (.mv (.t 10)),oq 27 (.un .not (.t 26))]) (.cond (.t 27) (.seq (.ops [ oq 6 (.mv (.v (.int .i64 0))),oq 7 (.mv (.v (.int .i64 0))),oq 8 (.mv (.v (.bool false)))]) .ret) .skip)) (.seq (.ops [ oq 29 (.ld (some 5) (.t 3)),oq 30 (.mv (.t 2)),oe 31 (.call 72 [(.t 29),(.t 30)]),oq 28 (.mv (.t 31)),oq 32 (.ext 0 (.t 28)),oq 33 (.ext 1 (.t 28)),oq 11 (.mv (.t 32)),oq 10 (.mv (.t 33))]) (.seq (.seq (.ops [ oq 34 (.mv (.t 10)),oq 35 (.un .not (.t 34))]) (.cond (.t 35) (.ops [ oq 36 (.ld (some 5) (.t 3)),oe 37 (.call 35 [(.t 36)]),oq 38 (.bin .sub (.t 37) (.v (.int .i64 1))),oq 11 (.mv (.t 38))]) .skip)) (.seq (.ops [ oq 39 (.mv (.t 9)),oq 40 (.mv (.t 11)),oq 6 (.mv (.t 39)),oq 7 (.mv (.t 40)),oq 8 (.mv (.v (.bool true)))]) .ret))))) (.seq (.ops [ oq 42 (.bin .eql (.t 17) (.v (.int .i64 2))),oq 41 (.mv (.t 42))]) (.cond (.t 41) (.seq (.seq (.ops [ oq 43 (.mv (.t 1)),oq 44 (.fa 2 (.t 3)),oq 45 (.ld none (.t 44)),oq 46 (.bin .geq (.t 43) (.t 45)),oq 47 (.mv (.t 46)),⟨some 48,some (47,true),.q (.mv (.t 2)),[]⟩,⟨some 49,some (47,true),.q (.fa 2 (.t 3)),[]⟩,⟨some 50,some (47,true),.q (.ld none (.t 49)),[]⟩,⟨some 51,some (47,true),.q (.fa 3 (.t 3)),[]⟩,⟨some 52,some (47,true),.q (.ld none (.t 51)),[]⟩,⟨some 53,some (47,true),.q (.bin .add (.t 50) (.t 52)),[]⟩,⟨some 54,some (47,true),.q (.bin .lss (.t 48) (.t 53)),[]⟩,oq 55 (.pick (.t 47) (.t 54) (.v (.bool false)))]) (.cond (.t 55) (.seq (.ops [ oq 6 (.mv (.v (.int .i64 0))),oq 7 (.mv (.v (.int .i64 0))),oq 8 (.mv (.v (.bool false)))]) .ret) .skip)) (.seq (.seq (.ops [ oq 56 (.mv (.t 1)),oq 57 (.fa 2 (.t 3)),oq 58 (.ld none (.t 57)),oq 59 (.bin .geq (.t 56) (.t 58)),oq 60 (.mv (.t 59)),⟨some 61,some (60,true),.q (.mv (.t 1)),[]⟩,⟨some 62,some (60,true),.q (.fa 2 (.t 3)),[]⟩,⟨some 63,some (60,true),.q (.ld none (.t 62)),[]⟩,⟨some 64,some (60,true),.q (.fa 3 (.t 3)),[]⟩,⟨some 65,some (60,true),.q (.ld none (.t 64)),[]⟩,⟨some 66,some (60,true),.q (.bin .add (.t 63) (.t 65)),[]⟩,⟨some 67,some (60,true),.q (.bin .lss (.t 61) (.t 66)),[]⟩,oq 68 (.pick (.t 60) (.t 67) (.v (.bool false)))]) (.cond (.t 68) (.ops [ oq 69 (.fa 2 (.t 3)),oq 70 (.ld none (.t 69)),oq 71 (.fa 3 (.t 3)),oq 72 (.ld none (.t 71)),oq 73 (.bin .add (.t 70) (.t 72)),oq 1 (.mv (.t 73))]) .skip)) (.seq (.ops [ oq 74 (.mv (.t 2)),oq 75 (.fa 2 (.t 3)),oq 76 (.ld none (.t 75)),oq 77 (.bin .geq (.t 74) (.t 76)),oq 78 (.mv (.t 77)),⟨some 79,some (78,true),.q (.mv (.t 2)),[]⟩,⟨some 80,some (78,true),.q (.fa 2 (.t 3)),[]⟩,⟨some 81,some (78,true),.q (.ld none (.t 80)),[]⟩,⟨some 82,some (78,true),.q (.fa 3 (.t 3)),[]⟩,⟨some 83,some (78,true),.q (.ld none (.t 82)),[]⟩,⟨some 84,some (78,true),.q (.bin .add (.t 81) (.t 83)),[]⟩,⟨some 85,some (78,true),.q (.bin .lss (.t 79) (.t 84)),[]⟩,oq 86 (.pick (.t 78) (.t 85) (.v (.bool false)))]) (.cond (.t 86) (.ops [ oq 87 (.fa 2 (.t 3)),oq 88 (.ld none (.t 87)),oq 89 (.bin .sub (.t 88) (.v (.int .i64 1))),oq 2 (.mv (.t 89))]) .skip)))) .skip))
def c73_49:ACode := .seq (.ops [ oe 3 (.box (.t 0)),oq 6 (.mv (.v (.int .i64 0))),oq 7 (.mv (.v (.int .i64 0))),oq 8 (.mv (.v (.bool false)))]) (.seq (.seq (.ops [ oq 16 (.fa 1 (.t 3)),oq 17 (.ld none (.t 16))]) (.block 0 (.seq (.ops [ oq 19 (.bin .eql (.t 17) (.v (.int .i64 1))),oq 18 (.mv (.t 19))]) c73_38))) (.seq (.ops [ oq 91 (.ld (some 5) (.t 3)),oq 92 (.mv (.t 1)),oe 93 (.call 72 [(.t 91),(.t 92)]),oq 90 (.mv (.t 93)),oq 94 (.ext 0 (.t 90)),oq 95 (.ext 1 (.t 90)),oq 12 (.mv (.t 94)),oq 13 (.mv (.t 95))]) (.seq (.ops [ oq 97 (.ld (some 5) (.t 3)),oq 98 (.mv (.t 2)),oe 99 (.call 72 [(.t 97),(.t 98)]),oq 96 (.mv (.t 99)),oq 100 (.ext 0 (.t 96)),oq 101 (.ext 1 (.t 96)),oq 14 (.mv (.t 100)),oq 15 (.mv (.t 101))]) (.seq (.ops [ oq 102 (.mv (.t 12)),oq 103 (.mv (.t 14)),oq 104 (.mnx false (.t 102) (.t 103)),oq 105 (.mv (.t 12)),oq 106 (.mv (.t 14)),oq 107 (.mnx true (.t 105) (.t 106)),oq 6 (.mv (.t 104)),oq 7 (.mv (.t 107)),oq 8 (.mv (.v (.bool true)))]) .ret))))
@[go_sem] def c73_38_wp:=wp_of c73_38.eq_1
@[go_sem] def c73_49_wp:=wp_of c73_49.eq_1
def c73:AFn:=⟨108,[.t 6,.t 7,.t 8],c73_49⟩
theorem c73_ok:compF Tryz.prog Tryz.f73=some c73:=by kernel_rfl
theorem a73 {args:List AV} {σ:ASt} {R:AV->ASt->Prop} (hl:args.length<=108) (h:c73_49.wp Tryz.prog (RetQ [.t 6,.t 7,.t 8] R) (init args) σ):ACalls Tryz.prog 73 args σ R:=acalls_of Tryz.func73 c73_ok hl h
end Go.A
namespace Go.A
open Go.Proofs Go.Lib
def Edt.span (e:Edt) (f t:Int):Int×Int×Bool:=
 if e.kind=1 then
  if (e.place f).2=true then ((e.place f).1,if (e.place t).2=true then (e.place t).1 else e.most-1,true) else (0,0,false)
 else if e.kind=2 then
  if e.at'<=f/\t<e.at'+e.n then (0,0,false)
  else
   let f':=if e.at'<=f/\f<e.at'+e.n then e.at'+e.n else f
   let t':=if e.at'<=t/\t<e.at'+e.n then e.at'-1 else t
   (min (e.place f').1 (e.place t').1,max (e.place f').1 (e.place t').1,true)
 else (min (e.place f).1 (e.place t).1,max (e.place f).1 (e.place t).1,true)
theorem shspan_ok (e:Edt) (he:e.fit) (f t:Int) (h0:0<=f) (h1:f<=t) (h2:t<=4000) :
  Pure Tryz.prog 73 [e.av,.int .i64 f,.int .i64 t] (.tuple [.int .i64 (e.span f t).1,.int .i64 (e.span f t).2.1,.bool (e.span f t).2.2]):=by
 intro σ
 have hm:=shmost_ok e
 have hr:=most_rng e
 have hp:∀ i,0<=i->i<=10000->Pure Tryz.prog 72 [e.av,.int .i64 i] (.tuple [.int .i64 (e.place i).1,.bool (e.place i).2]):=fun i h0 h1=>shplace_ok e he i h0 h1
 obtain ⟨a0,a1,n0,n1,ht⟩:=he
 obtain ⟨q,hq⟩:∃ q,e.span f t=q:=⟨_,rfl⟩
 rw [hq]
 unfold Edt.span at hq
 generalize e.most=M at *
 generalize e.place=pl at *
 unfold Edt.av at hm hp ⊢
 by_cases k1:e.kind=1
 ·rw [if_pos k1] at hq
  have h3:=hp f (by omega) (by omega)
  have h4:=hp t (by omega) (by omega)
  obtain ⟨⟨i,ok⟩,hi⟩:∃ r,pl f=r:=⟨_,rfl⟩
  obtain ⟨⟨j,ok2⟩,hj⟩:∃ r,pl t=r:=⟨_,rfl⟩
  rw [hi] at hq h3
  rw [hj] at hq h4
  dsimp only at hq h3 h4
  cases ok with
  | false=>
    rw [if_neg (by simp)] at hq
    subst hq
    refine a73 (by simp) ?_
    simp (disch:=first|assumption|omega) only [go_sem]
    refine boxC_by rfl fun b hb=>?_
    simp (disch:=first|assumption|omega) only [go_sem,Nat.reduceEqDiff,Nat.reduceLeDiff,↓reduceIte,k1]
    refine h3.use ?_
    simp (disch:=first|assumption|omega) only [go_sem,Nat.reduceEqDiff,↓reduceIte]
    exact retC_by (Drop.set hb) (.refl _) ⟨rfl,rfl⟩
  | true=>
    rw [if_pos rfl] at hq
    cases ok2 with
    | true=>
      rw [if_pos rfl] at hq
      subst hq
      refine a73 (by simp) ?_
      simp (disch:=first|assumption|omega) only [go_sem]
      refine boxC_by rfl fun b hb=>?_
      simp (disch:=first|assumption|omega) only [go_sem,Nat.reduceEqDiff,Nat.reduceLeDiff,↓reduceIte,k1]
      refine h3.use ?_
      simp (disch:=first|assumption|omega) only [go_sem,Nat.reduceEqDiff,Nat.reduceLeDiff,↓reduceIte]
      refine h4.use ?_
      simp (disch:=first|assumption|omega) only [go_sem,Nat.reduceEqDiff,↓reduceIte]
      exact retC_by (Drop.set hb) (.refl _) ⟨rfl,rfl⟩
    | false=>
      rw [if_neg (by simp)] at hq
      subst hq
      refine a73 (by simp) ?_
      simp (disch:=first|assumption|omega) only [go_sem]
      refine boxC_by rfl fun b hb=>?_
      simp (disch:=first|assumption|omega) only [go_sem,Nat.reduceEqDiff,Nat.reduceLeDiff,↓reduceIte,k1]
      refine h3.use ?_
      simp (disch:=first|assumption|omega) only [go_sem,Nat.reduceEqDiff,Nat.reduceLeDiff,↓reduceIte]
      refine h4.use ?_
      simp (disch:=first|assumption|omega) only [go_sem,Nat.reduceEqDiff,Nat.reduceLeDiff,↓reduceIte]
      refine hm.use ?_
      simp (disch:=first|assumption|omega) only [go_sem,Nat.reduceEqDiff,↓reduceIte]
      exact retC_by (Drop.set hb) (.refl _) ⟨rfl,rfl⟩
 rw [if_neg k1] at hq
 by_cases k2:e.kind=2
 ·rw [if_pos k2] at hq
  by_cases g1:e.at'<=f
  ·by_cases g2:t<e.at'+e.n
   ·rw [if_pos ⟨g1,g2⟩] at hq
    subst hq
    refine a73 (by simp) ?_
    simp (disch:=first|assumption|omega) only [go_sem]
    refine boxC_by rfl fun b hb=>?_
    simp (disch:=first|assumption|omega) only [go_sem,Nat.reduceEqDiff,Int.reduceEq,↓reduceIte,k2,g1,g2]
    exact retC_by (Drop.set hb) (.refl _) ⟨rfl,rfl⟩
   ·rw [if_neg (fun h=>g2 h.2)] at hq
    have g3:e.at'<=t:=by omega
    rw [if_neg (c:=e.at'<=t/\t<e.at'+e.n) (fun h=>g2 h.2)] at hq
    by_cases g4:f<e.at'+e.n
    ·rw [if_pos ⟨g1,g4⟩] at hq
     have h3:=hp (e.at'+e.n) (by omega) (by omega)
     have h4:=hp t (by omega) (by omega)
     dsimp only at hq
     subst hq
     refine a73 (by simp) ?_
     simp (disch:=first|assumption|omega) only [go_sem]
     refine boxC_by rfl fun b hb=>?_
     simp (disch:=first|assumption|omega) only [go_sem,Nat.reduceEqDiff,Nat.reduceLeDiff,Int.reduceEq,↓reduceIte,k2,g1,g2,g3,g4]
     refine h3.use ?_
     simp (disch:=first|assumption|omega) only [go_sem,Nat.reduceEqDiff,Nat.reduceLeDiff,↓reduceIte]
     refine h4.use ?_
     simp (disch:=first|assumption|omega) only [go_sem,Nat.reduceEqDiff,↓reduceIte]
     exact retC_by (Drop.set hb) (.refl _) ⟨rfl,rfl⟩
    ·rw [if_neg (fun h=>g4 h.2)] at hq
     have h3:=hp f (by omega) (by omega)
     have h4:=hp t (by omega) (by omega)
     dsimp only at hq
     subst hq
     refine a73 (by simp) ?_
     simp (disch:=first|assumption|omega) only [go_sem]
     refine boxC_by rfl fun b hb=>?_
     simp (disch:=first|assumption|omega) only [go_sem,Nat.reduceEqDiff,Nat.reduceLeDiff,Int.reduceEq,↓reduceIte,k2,g1,g2,g3,g4]
     refine h3.use ?_
     simp (disch:=first|assumption|omega) only [go_sem,Nat.reduceEqDiff,Nat.reduceLeDiff,↓reduceIte]
     refine h4.use ?_
     simp (disch:=first|assumption|omega) only [go_sem,Nat.reduceEqDiff,↓reduceIte]
     exact retC_by (Drop.set hb) (.refl _) ⟨rfl,rfl⟩
  ·rw [if_neg (fun h=>g1 h.1),if_neg (c:=e.at'<=f/\f<e.at'+e.n) (fun h=>g1 h.1)] at hq
   have h3:=hp f (by omega) (by omega)
   by_cases g3:e.at'<=t
   ·by_cases g2:t<e.at'+e.n
    ·rw [if_pos ⟨g3,g2⟩] at hq
     have h4:=hp (e.at'-1) (by omega) (by omega)
     dsimp only at hq
     subst hq
     refine a73 (by simp) ?_
     simp (disch:=first|assumption|omega) only [go_sem]
     refine boxC_by rfl fun b hb=>?_
     simp (disch:=first|assumption|omega) only [go_sem,Nat.reduceEqDiff,Nat.reduceLeDiff,Int.reduceEq,↓reduceIte,k2,g1,g2,g3]
     refine h3.use ?_
     simp (disch:=first|assumption|omega) only [go_sem,Nat.reduceEqDiff,Nat.reduceLeDiff,↓reduceIte]
     refine h4.use ?_
     simp (disch:=first|assumption|omega) only [go_sem,Nat.reduceEqDiff,↓reduceIte]
     exact retC_by (Drop.set hb) (.refl _) ⟨rfl,rfl⟩
    ·rw [if_neg (fun h=>g2 h.2)] at hq
     have h4:=hp t (by omega) (by omega)
     dsimp only at hq
     subst hq
     refine a73 (by simp) ?_
     simp (disch:=first|assumption|omega) only [go_sem]
     refine boxC_by rfl fun b hb=>?_
     simp (disch:=first|assumption|omega) only [go_sem,Nat.reduceEqDiff,Nat.reduceLeDiff,Int.reduceEq,↓reduceIte,k2,g1,g2,g3]
     refine h3.use ?_
     simp (disch:=first|assumption|omega) only [go_sem,Nat.reduceEqDiff,Nat.reduceLeDiff,↓reduceIte]
     refine h4.use ?_
     simp (disch:=first|assumption|omega) only [go_sem,Nat.reduceEqDiff,↓reduceIte]
     exact retC_by (Drop.set hb) (.refl _) ⟨rfl,rfl⟩
   ·rw [if_neg (fun h=>g3 h.1)] at hq
    have h4:=hp t (by omega) (by omega)
    dsimp only at hq
    subst hq
    refine a73 (by simp) ?_
    simp (disch:=first|assumption|omega) only [go_sem]
    refine boxC_by rfl fun b hb=>?_
    simp (disch:=first|assumption|omega) only [go_sem,Nat.reduceEqDiff,Nat.reduceLeDiff,Int.reduceEq,↓reduceIte,k2,g1,g3]
    refine h3.use ?_
    simp (disch:=first|assumption|omega) only [go_sem,Nat.reduceEqDiff,Nat.reduceLeDiff,↓reduceIte]
    refine h4.use ?_
    simp (disch:=first|assumption|omega) only [go_sem,Nat.reduceEqDiff,↓reduceIte]
    exact retC_by (Drop.set hb) (.refl _) ⟨rfl,rfl⟩
 ·rw [if_neg k2] at hq
  have h3:=hp f (by omega) (by omega)
  have h4:=hp t (by omega) (by omega)
  subst hq
  refine a73 (by simp) ?_
  simp (disch:=first|assumption|omega) only [go_sem]
  refine boxC_by rfl fun b hb=>?_
  simp (disch:=first|assumption|omega) only [go_sem,Nat.reduceEqDiff,Nat.reduceLeDiff,↓reduceIte,k1,k2]
  refine h3.use ?_
  simp (disch:=first|assumption|omega) only [go_sem,Nat.reduceEqDiff,Nat.reduceLeDiff,↓reduceIte]
  refine h4.use ?_
  simp (disch:=first|assumption|omega) only [go_sem,Nat.reduceEqDiff,↓reduceIte]
  exact retC_by (Drop.set hb) (.refl _) ⟨rfl,rfl⟩
def goneN:Nd := .mk 4 40000 [] .zero .zero []
theorem gone_av:goneN.av = .agg [.int .i64 4,.int .i64 40000,.str [],.int .i64 0,.int .i64 0,.bool false,.bool false,.int .i64 0,.int .i64 0,.bool false,.bool false,.sl .shr []]:=by
 unfold goneN
 rw [Nd.av_cs];rfl
def Edt.of (e:Edt) (a:Ref):Int:=if e.cols=true then a.col else a.row
def Edt.set (e:Edt) (a:Ref) (i:Int):Ref:=if e.cols=true then ⟨a.row,i,a.absRow,a.absCol⟩ else ⟨i,a.col,a.absRow,a.absCol⟩
def Edt.cell (e:Edt):Nd->Nd
 | .mk op n s a b ks=>if (e.place (e.of a)).2=true then .mk op n s (e.set a (e.place (e.of a)).1) b ks else goneN
def Edt.area (e:Edt):Nd->Nd
 | .mk op n s a b ks=>
   if (e.span (min (e.of a) (e.of b)) (max (e.of a) (e.of b))).2.2=true then
    if e.of b<e.of a then .mk op n s (e.set a (e.span (min (e.of a) (e.of b)) (max (e.of a) (e.of b))).2.1) (e.set b (e.span (min (e.of a) (e.of b)) (max (e.of a) (e.of b))).1) ks
    else .mk op n s (e.set a (e.span (min (e.of a) (e.of b)) (max (e.of a) (e.of b))).1) (e.set b (e.span (min (e.of a) (e.of b)) (max (e.of a) (e.of b))).2.1) ks
   else goneN
def Edt.node (e:Edt) (x:Nd):Nd:=if x.op=5 then e.cell x else e.area x
def Edt.tree (e:Edt) (n:Nd):Nd:=Nd.map e.node n
theorem of_rng {e:Edt} {a:Ref} (h:a.good=true):0<=e.of a/\e.of a<3000:=by
 simp only [Ref.good,decide_eq_true_eq] at h
 unfold Edt.of
 split<;>omega
theorem shcell_ok (e:Edt) (he:e.fit) (op n:Int) (s:List UInt8) (a b:Ref) (ks:List Nd) (ha:a.good=true) :
  Pure Tryz.prog 39 [e.av,(Nd.mk op n s a b ks).av] (e.cell (.mk op n s a b ks)).av:=by
 intro σ
 have hg:Pure Tryz.prog 43 [] (.agg [.int .i64 4,.int .i64 40000,.str [],.int .i64 0,.int .i64 0,.bool false,.bool false,.int .i64 0,.int .i64 0,.bool false,.bool false,.sl .shr []]):=by
  have:=shgone_ok
  rw [Nd.av_cs] at this
  exact this
 have h0:=of_rng (e:=e) ha
 have hp:=shplace_ok e he (e.of a) (by omega) (by omega)
 obtain ⟨⟨i,ok⟩,hq⟩:∃ q,e.place (e.of a)=q:=⟨_,rfl⟩
 rw [Edt.cell,hq]
 rw [hq] at hp
 dsimp only at hp ⊢
 have hav:∀ r:Ref,(Nd.mk op n s r b ks).av = .agg [.int .i64 op,.int .i64 n,.str s,.int .i64 r.row,.int .i64 r.col,.bool r.absRow,.bool r.absCol,.int .i64 b.row,.int .i64 b.col,.bool b.absRow,.bool b.absCol,.sl .shr (ks.map Nd.av)]:=fun r=>Nd.av_cs ..
 rw [hav]
 generalize ks.map Nd.av=L at *
 cases hb:e.cols with
 | true=>
   have ho:e.of a=a.col:=by unfold Edt.of;rw [if_pos hb]
   have hs:e.set a i=⟨a.row,i,a.absRow,a.absCol⟩:=by unfold Edt.set;rw [if_pos hb]
   rw [ho] at hp
   rw [hs]
   unfold Edt.av at hp ⊢
   cases ok with
   | true=>
     rw [if_pos rfl,hav]
     refine a39 (by simp) ?_
     simp (disch:=first|assumption|omega) only [go_sem]
     refine boxC_by rfl fun c hc=>?_
     simp (disch:=first|assumption|omega) only [go_sem,Nat.reduceEqDiff,↓reduceIte]
     refine boxC_by rfl fun d hd=>?_
     repeat (with_reducible replace hd:=set_none hd;obtain ⟨_,_,hd⟩:=hd)
     simp (disch:=first|assumption|omega) only [go_sem]
     refine allocC_by fun t ht=>?_
     repeat (with_reducible replace ht:=set_none ht;obtain ⟨_,_,ht⟩:=ht)
     have hdt:d≠t:=by assumption
     have hsw:∀ (ρ:ASt) (X Y Z:Option Role),((ρ.set d X).set t Y).set d Z=(ρ.set d Z).set t Y:=fun _ _ _ _=>set_mid hdt
     simp (disch:=first|assumption|omega) only [go_sem,Nat.reduceEqDiff,Nat.reduceAdd,Nat.reduceLeDiff,↓reduceIte,hb]
     refine hp.use ?_
     simp (disch:=first|assumption|omega) only [go_sem,Nat.reduceEqDiff,Nat.reduceAdd,Nat.reduceLeDiff,↓reduceIte,Bool.true_and,hsw,ASt.set_set]
     exact retC_by (by repeat' (first|exact Drop.refl _|with_reducible refine Drop.off ?_ (by assumption))) (.refl _) ⟨rfl,rfl⟩
   | false=>
     rw [if_neg (by simp),gone_av]
     refine a39 (by simp) ?_
     simp (disch:=first|assumption|omega) only [go_sem]
     refine boxC_by rfl fun c hc=>?_
     simp (disch:=first|assumption|omega) only [go_sem,Nat.reduceEqDiff,↓reduceIte]
     refine boxC_by rfl fun d hd=>?_
     repeat (with_reducible replace hd:=set_none hd;obtain ⟨_,_,hd⟩:=hd)
     simp (disch:=first|assumption|omega) only [go_sem]
     refine allocC_by fun t ht=>?_
     repeat (with_reducible replace ht:=set_none ht;obtain ⟨_,_,ht⟩:=ht)
     simp (disch:=first|assumption|omega) only [go_sem,Nat.reduceEqDiff,Nat.reduceAdd,Nat.reduceLeDiff,↓reduceIte,hb]
     refine hp.use ?_
     simp (disch:=first|assumption|omega) only [go_sem,Nat.reduceEqDiff,↓reduceIte]
     refine hg.use ?_
     simp (disch:=first|assumption|omega) only [go_sem,Nat.reduceEqDiff,Nat.reduceAdd,Nat.reduceLeDiff,↓reduceIte,Bool.true_and,ASt.set_set]
     exact retC_by (by repeat' (first|exact Drop.refl _|with_reducible refine Drop.off ?_ (by assumption))) (.refl _) ⟨rfl,rfl⟩
 | false=>
   have ho:e.of a=a.row:=by unfold Edt.of;rw [if_neg (by simp [hb])]
   have hs:e.set a i=⟨i,a.col,a.absRow,a.absCol⟩:=by unfold Edt.set;rw [if_neg (by simp [hb])]
   rw [ho] at hp
   rw [hs]
   unfold Edt.av at hp ⊢
   cases ok with
   | true=>
     rw [if_pos rfl,hav]
     refine a39 (by simp) ?_
     simp (disch:=first|assumption|omega) only [go_sem]
     refine boxC_by rfl fun c hc=>?_
     simp (disch:=first|assumption|omega) only [go_sem,Nat.reduceEqDiff,↓reduceIte]
     refine boxC_by rfl fun d hd=>?_
     repeat (with_reducible replace hd:=set_none hd;obtain ⟨_,_,hd⟩:=hd)
     simp (disch:=first|assumption|omega) only [go_sem]
     refine allocC_by fun t ht=>?_
     repeat (with_reducible replace ht:=set_none ht;obtain ⟨_,_,ht⟩:=ht)
     have hdt:d≠t:=by assumption
     have hsw:∀ (ρ:ASt) (X Y Z:Option Role),((ρ.set d X).set t Y).set d Z=(ρ.set d Z).set t Y:=fun _ _ _ _=>set_mid hdt
     simp (disch:=first|assumption|omega) only [go_sem,Nat.reduceEqDiff,Nat.reduceLeDiff,↓reduceIte,hb]
     refine hp.use ?_
     simp (disch:=first|assumption|omega) only [go_sem,Nat.reduceEqDiff,Nat.reduceAdd,Nat.reduceLeDiff,↓reduceIte,Bool.true_and,hsw,ASt.set_set]
     exact retC_by (by repeat' (first|exact Drop.refl _|with_reducible refine Drop.off ?_ (by assumption))) (.refl _) ⟨rfl,rfl⟩
   | false=>
     rw [if_neg (by simp),gone_av]
     refine a39 (by simp) ?_
     simp (disch:=first|assumption|omega) only [go_sem]
     refine boxC_by rfl fun c hc=>?_
     simp (disch:=first|assumption|omega) only [go_sem,Nat.reduceEqDiff,↓reduceIte]
     refine boxC_by rfl fun d hd=>?_
     repeat (with_reducible replace hd:=set_none hd;obtain ⟨_,_,hd⟩:=hd)
     simp (disch:=first|assumption|omega) only [go_sem]
     refine allocC_by fun t ht=>?_
     repeat (with_reducible replace ht:=set_none ht;obtain ⟨_,_,ht⟩:=ht)
     simp (disch:=first|assumption|omega) only [go_sem,Nat.reduceEqDiff,Nat.reduceLeDiff,↓reduceIte,hb]
     refine hp.use ?_
     simp (disch:=first|assumption|omega) only [go_sem,Nat.reduceEqDiff,↓reduceIte]
     refine hg.use ?_
     simp (disch:=first|assumption|omega) only [go_sem,Nat.reduceEqDiff,Nat.reduceAdd,Nat.reduceLeDiff,↓reduceIte,Bool.true_and,ASt.set_set]
     exact retC_by (by repeat' (first|exact Drop.refl _|with_reducible refine Drop.off ?_ (by assumption))) (.refl _) ⟨rfl,rfl⟩
theorem sharea_ok (e:Edt) (he:e.fit) (op n:Int) (s:List UInt8) (a b:Ref) (ks:List Nd) (ha:a.good=true) (hb':b.good=true) :
  Pure Tryz.prog 40 [e.av,(Nd.mk op n s a b ks).av] (e.area (.mk op n s a b ks)).av:=by
 intro σ
 have hg:Pure Tryz.prog 43 [] (.agg [.int .i64 4,.int .i64 40000,.str [],.int .i64 0,.int .i64 0,.bool false,.bool false,.int .i64 0,.int .i64 0,.bool false,.bool false,.sl .shr []]):=by
  have:=shgone_ok
  rw [Nd.av_cs] at this
  exact this
 have h0:=of_rng (e:=e) ha
 have h1:=of_rng (e:=e) hb'
 have hp:=shspan_ok e he (min (e.of a) (e.of b)) (max (e.of a) (e.of b)) (by omega) (by omega) (by omega)
 obtain ⟨⟨i,j,ok⟩,hq⟩:∃ q,e.span (min (e.of a) (e.of b)) (max (e.of a) (e.of b))=q:=⟨_,rfl⟩
 rw [Edt.area,hq]
 rw [hq] at hp
 dsimp only at hp ⊢
 have hav:∀ r u:Ref,(Nd.mk op n s r u ks).av = .agg [.int .i64 op,.int .i64 n,.str s,.int .i64 r.row,.int .i64 r.col,.bool r.absRow,.bool r.absCol,.int .i64 u.row,.int .i64 u.col,.bool u.absRow,.bool u.absCol,.sl .shr (ks.map Nd.av)]:=fun r u=>Nd.av_cs ..
 cases hb:e.cols with
 | true=>
   have ho:∀ r:Ref,e.of r=r.col:=fun r=>by unfold Edt.of;rw [if_pos hb]
   have hs:∀ (r:Ref) (k:Int),e.set r k=⟨r.row,k,r.absRow,r.absCol⟩:=fun r k=>by unfold Edt.set;rw [if_pos hb]
   rw [ho,ho] at hp ⊢
   unfold Edt.av at hp ⊢
   cases ok with
   | true=>
     rw [if_pos rfl]
     by_cases hlt:b.col<a.col
     ·rw [if_pos hlt,hs,hs,hav,hav]
      generalize ks.map Nd.av=L at *
      refine a40 (by simp) ?_
      simp (disch:=first|assumption|omega) only [go_sem]
      refine boxC_by rfl fun c hc=>?_
      simp (disch:=first|assumption|omega) only [go_sem,Nat.reduceEqDiff,↓reduceIte]
      refine boxC_by rfl fun d hd=>?_
      repeat (with_reducible replace hd:=set_none hd;obtain ⟨_,_,hd⟩:=hd)
      simp (disch:=first|assumption|omega) only [go_sem]
      refine allocC_by fun t ht=>?_
      repeat (with_reducible replace ht:=set_none ht;obtain ⟨_,_,ht⟩:=ht)
      have hdt:d≠t:=by assumption
      have hsw:∀ (ρ:ASt) (X Y Z:Option Role),((ρ.set d X).set t Y).set d Z=(ρ.set d Z).set t Y:=fun _ _ _ _=>set_mid hdt
      simp (disch:=first|assumption|omega) only [go_sem,Nat.reduceEqDiff,Nat.reduceAdd,Nat.reduceLeDiff,↓reduceIte,hb,hlt]
      refine hp.use ?_
      simp (disch:=first|assumption|omega) only [go_sem,Nat.reduceEqDiff,Nat.reduceAdd,Nat.reduceLeDiff,↓reduceIte,Bool.true_and,hsw,ASt.set_set]
      exact retC_by (by repeat' (first|exact Drop.refl _|with_reducible refine Drop.off ?_ (by assumption))) (.refl _) ⟨rfl,rfl⟩
     ·rw [if_neg hlt,hs,hs,hav,hav]
      generalize ks.map Nd.av=L at *
      refine a40 (by simp) ?_
      simp (disch:=first|assumption|omega) only [go_sem]
      refine boxC_by rfl fun c hc=>?_
      simp (disch:=first|assumption|omega) only [go_sem,Nat.reduceEqDiff,↓reduceIte]
      refine boxC_by rfl fun d hd=>?_
      repeat (with_reducible replace hd:=set_none hd;obtain ⟨_,_,hd⟩:=hd)
      simp (disch:=first|assumption|omega) only [go_sem]
      refine allocC_by fun t ht=>?_
      repeat (with_reducible replace ht:=set_none ht;obtain ⟨_,_,ht⟩:=ht)
      have hdt:d≠t:=by assumption
      have hsw:∀ (ρ:ASt) (X Y Z:Option Role),((ρ.set d X).set t Y).set d Z=(ρ.set d Z).set t Y:=fun _ _ _ _=>set_mid hdt
      simp (disch:=first|assumption|omega) only [go_sem,Nat.reduceEqDiff,Nat.reduceAdd,Nat.reduceLeDiff,↓reduceIte,hb,hlt]
      refine hp.use ?_
      simp (disch:=first|assumption|omega) only [go_sem,Nat.reduceEqDiff,Nat.reduceAdd,Nat.reduceLeDiff,↓reduceIte,Bool.true_and,hsw,ASt.set_set]
      exact retC_by (by repeat' (first|exact Drop.refl _|with_reducible refine Drop.off ?_ (by assumption))) (.refl _) ⟨rfl,rfl⟩
   | false=>
     rw [if_neg (by simp),hav,gone_av]
     generalize ks.map Nd.av=L at *
     refine a40 (by simp) ?_
     simp (disch:=first|assumption|omega) only [go_sem]
     refine boxC_by rfl fun c hc=>?_
     simp (disch:=first|assumption|omega) only [go_sem,Nat.reduceEqDiff,↓reduceIte]
     refine boxC_by rfl fun d hd=>?_
     repeat (with_reducible replace hd:=set_none hd;obtain ⟨_,_,hd⟩:=hd)
     simp (disch:=first|assumption|omega) only [go_sem]
     refine allocC_by fun t ht=>?_
     repeat (with_reducible replace ht:=set_none ht;obtain ⟨_,_,ht⟩:=ht)
     simp (disch:=first|assumption|omega) only [go_sem,Nat.reduceEqDiff,Nat.reduceAdd,Nat.reduceLeDiff,↓reduceIte,hb]
     refine hp.use ?_
     simp (disch:=first|assumption|omega) only [go_sem,Nat.reduceEqDiff,↓reduceIte]
     refine hg.use ?_
     simp (disch:=first|assumption|omega) only [go_sem,Nat.reduceEqDiff,Nat.reduceAdd,Nat.reduceLeDiff,↓reduceIte,Bool.true_and,ASt.set_set]
     exact retC_by (by repeat' (first|exact Drop.refl _|with_reducible refine Drop.off ?_ (by assumption))) (.refl _) ⟨rfl,rfl⟩
 | false=>
   have ho:∀ r:Ref,e.of r=r.row:=fun r=>by unfold Edt.of;rw [if_neg (by simp [hb])]
   have hs:∀ (r:Ref) (k:Int),e.set r k=⟨k,r.col,r.absRow,r.absCol⟩:=fun r k=>by unfold Edt.set;rw [if_neg (by simp [hb])]
   rw [ho,ho] at hp ⊢
   unfold Edt.av at hp ⊢
   cases ok with
   | true=>
     rw [if_pos rfl]
     by_cases hlt:b.row<a.row
     ·rw [if_pos hlt,hs,hs,hav,hav]
      generalize ks.map Nd.av=L at *
      refine a40 (by simp) ?_
      simp (disch:=first|assumption|omega) only [go_sem]
      refine boxC_by rfl fun c hc=>?_
      simp (disch:=first|assumption|omega) only [go_sem,Nat.reduceEqDiff,↓reduceIte]
      refine boxC_by rfl fun d hd=>?_
      repeat (with_reducible replace hd:=set_none hd;obtain ⟨_,_,hd⟩:=hd)
      simp (disch:=first|assumption|omega) only [go_sem]
      refine allocC_by fun t ht=>?_
      repeat (with_reducible replace ht:=set_none ht;obtain ⟨_,_,ht⟩:=ht)
      have hdt:d≠t:=by assumption
      have hsw:∀ (ρ:ASt) (X Y Z:Option Role),((ρ.set d X).set t Y).set d Z=(ρ.set d Z).set t Y:=fun _ _ _ _=>set_mid hdt
      simp (disch:=first|assumption|omega) only [go_sem,Nat.reduceEqDiff,Nat.reduceLeDiff,↓reduceIte,hb,hlt]
      refine hp.use ?_
      simp (disch:=first|assumption|omega) only [go_sem,Nat.reduceEqDiff,Nat.reduceAdd,Nat.reduceLeDiff,↓reduceIte,Bool.true_and,hsw,ASt.set_set]
      exact retC_by (by repeat' (first|exact Drop.refl _|with_reducible refine Drop.off ?_ (by assumption))) (.refl _) ⟨rfl,rfl⟩
     ·rw [if_neg hlt,hs,hs,hav,hav]
      generalize ks.map Nd.av=L at *
      refine a40 (by simp) ?_
      simp (disch:=first|assumption|omega) only [go_sem]
      refine boxC_by rfl fun c hc=>?_
      simp (disch:=first|assumption|omega) only [go_sem,Nat.reduceEqDiff,↓reduceIte]
      refine boxC_by rfl fun d hd=>?_
      repeat (with_reducible replace hd:=set_none hd;obtain ⟨_,_,hd⟩:=hd)
      simp (disch:=first|assumption|omega) only [go_sem]
      refine allocC_by fun t ht=>?_
      repeat (with_reducible replace ht:=set_none ht;obtain ⟨_,_,ht⟩:=ht)
      have hdt:d≠t:=by assumption
      have hsw:∀ (ρ:ASt) (X Y Z:Option Role),((ρ.set d X).set t Y).set d Z=(ρ.set d Z).set t Y:=fun _ _ _ _=>set_mid hdt
      simp (disch:=first|assumption|omega) only [go_sem,Nat.reduceEqDiff,Nat.reduceLeDiff,↓reduceIte,hb,hlt]
      refine hp.use ?_
      simp (disch:=first|assumption|omega) only [go_sem,Nat.reduceEqDiff,Nat.reduceAdd,Nat.reduceLeDiff,↓reduceIte,Bool.true_and,hsw,ASt.set_set]
      exact retC_by (by repeat' (first|exact Drop.refl _|with_reducible refine Drop.off ?_ (by assumption))) (.refl _) ⟨rfl,rfl⟩
   | false=>
     rw [if_neg (by simp),hav,gone_av]
     generalize ks.map Nd.av=L at *
     refine a40 (by simp) ?_
     simp (disch:=first|assumption|omega) only [go_sem]
     refine boxC_by rfl fun c hc=>?_
     simp (disch:=first|assumption|omega) only [go_sem,Nat.reduceEqDiff,↓reduceIte]
     refine boxC_by rfl fun d hd=>?_
     repeat (with_reducible replace hd:=set_none hd;obtain ⟨_,_,hd⟩:=hd)
     simp (disch:=first|assumption|omega) only [go_sem]
     refine allocC_by fun t ht=>?_
     repeat (with_reducible replace ht:=set_none ht;obtain ⟨_,_,ht⟩:=ht)
     simp (disch:=first|assumption|omega) only [go_sem,Nat.reduceEqDiff,Nat.reduceLeDiff,↓reduceIte,hb]
     refine hp.use ?_
     simp (disch:=first|assumption|omega) only [go_sem,Nat.reduceEqDiff,↓reduceIte]
     refine hg.use ?_
     simp (disch:=first|assumption|omega) only [go_sem,Nat.reduceEqDiff,Nat.reduceAdd,Nat.reduceLeDiff,↓reduceIte,Bool.true_and,ASt.set_set]
     exact retC_by (by repeat' (first|exact Drop.refl _|with_reducible refine Drop.off ?_ (by assumption))) (.refl _) ⟨rfl,rfl⟩
theorem ok_kids:∀ (op m:Int) (s:List UInt8) (a b:Ref) (ks:List Nd),(Nd.mk op m s a b ks).ok->∀ x∈ks,x.ok:=fun op m s a b ks h=>by
 rw [Nd.ok] at h
 exact Nd.oks_mem.1 h.2
theorem ok_refs {op m:Int} {s:List UInt8} {a b:Ref} {ks:List Nd} (h:(Nd.mk op m s a b ks).ok):(op=5\/op=6->a.good=true)/\(op=6->b.good=true):=by
 rw [Nd.ok] at h
 exact ⟨h.1.2.2.2.2.2.1,h.1.2.2.2.2.2.2.1⟩
def EdtAt (e:Edt) (c:Nat) (σ:ASt):Prop:=σ c=some (.obj e.cs)
theorem shTree1_ok (e:Edt) (he:e.fit) (c:Nat) (x:Nd) (hx:x.ok) (ho:x.op=5\/x.op=6) (σ:ASt) (hσ:EdtAt e c σ) :
  ACalls Tryz.prog 38 [x.av,.ptr c 0] σ fun v σ'=>v=(e.node x).av/\σ'=σ:=by
 obtain ⟨op,n,s,a,b,ks⟩:=x
 have hr:=ok_refs hx
 unfold EdtAt at hσ
 change op=5\/op=6 at ho
 have hc1:op=5->Pure Tryz.prog 39 [e.av,(Nd.mk op n s a b ks).av] (e.cell (.mk op n s a b ks)).av:=fun h=>shcell_ok e he op n s a b ks (hr.1 ho)
 have hc2:op≠5->Pure Tryz.prog 40 [e.av,(Nd.mk op n s a b ks).av] (e.area (.mk op n s a b ks)).av:=fun h=>sharea_ok e he op n s a b ks (hr.1 ho) (hr.2 (by omega))
 have hnode:e.node (.mk op n s a b ks)=if op=5 then e.cell (.mk op n s a b ks) else e.area (.mk op n s a b ks):=rfl
 rw [hnode]
 have hav:(Nd.mk op n s a b ks).av = .agg [.int .i64 op,.int .i64 n,.str s,.int .i64 a.row,.int .i64 a.col,.bool a.absRow,.bool a.absCol,.int .i64 b.row,.int .i64 b.col,.bool b.absRow,.bool b.absCol,.sl .shr (ks.map Nd.av)]:=Nd.av_cs ..
 rw [hav] at hc1 hc2 ⊢
 unfold Edt.av at hc1 hc2
 generalize ks.map Nd.av=L at *
 by_cases h5:op=5
 ·have h:=hc1 h5
  rw [if_pos h5]
  subst h5
  obtain ⟨⟨wo,wm,ws,wa,wb,wk⟩,hw⟩:∃ w,e.cell (.mk 5 n s a b ks)=w:=⟨_,rfl⟩
  rw [hw,Nd.av_cs] at h
  rw [hw,Nd.av_cs]
  unfold Nd.cs at h ⊢
  generalize wk.map Nd.av=WL at *
  refine a38 (by simp) ?_
  simp (disch:=first|assumption|omega) only [go_sem]
  refine boxC_by rfl fun d hd=>?_
  have hcd:c≠d:=by rintro rfl;rw [hd] at hσ;cases hσ
  simp (disch:=first|assumption|omega) only [go_sem]
  refine allocC_by fun t ht=>?_
  have hct:c≠t:=by rintro rfl;rw [ASt.set_ne hcd,hσ] at ht;cases ht
  repeat (with_reducible replace ht:=set_none ht;obtain ⟨_,_,ht⟩:=ht)
  simp (disch:=first|assumption|omega) only [go_sem,Nat.reduceEqDiff,Nat.reduceAdd,Nat.reduceLeDiff,↓reduceIte,hσ]
  refine h.use ?_
  simp (disch:=first|assumption|omega) only [go_sem,Nat.reduceEqDiff,Nat.reduceAdd,Nat.reduceLeDiff,↓reduceIte,Bool.true_and,ASt.set_set]
  exact retC_by (by repeat' (first|exact Drop.refl _|with_reducible refine Drop.off ?_ (by assumption))) (.refl _) ⟨rfl,rfl⟩
 ·have h:=hc2 h5
  rw [if_neg h5]
  obtain ⟨⟨wo,wm,ws,wa,wb,wk⟩,hw⟩:∃ w,e.area (.mk op n s a b ks)=w:=⟨_,rfl⟩
  rw [hw,Nd.av_cs] at h
  rw [hw,Nd.av_cs]
  unfold Nd.cs at h ⊢
  generalize wk.map Nd.av=WL at *
  refine a38 (by simp) ?_
  simp (disch:=first|assumption|omega) only [go_sem]
  refine boxC_by rfl fun d hd=>?_
  have hcd:c≠d:=by rintro rfl;rw [hd] at hσ;cases hσ
  simp (disch:=first|assumption|omega) only [go_sem]
  refine allocC_by fun t ht=>?_
  have hct:c≠t:=by rintro rfl;rw [ASt.set_ne hcd,hσ] at ht;cases ht
  repeat (with_reducible replace ht:=set_none ht;obtain ⟨_,_,ht⟩:=ht)
  simp (disch:=first|assumption|omega) only [go_sem,Nat.reduceEqDiff,Nat.reduceAdd,Nat.reduceLeDiff,↓reduceIte,h5,hσ]
  refine h.use ?_
  simp (disch:=first|assumption|omega) only [go_sem,Nat.reduceEqDiff,Nat.reduceAdd,Nat.reduceLeDiff,↓reduceIte,Bool.true_and,ASt.set_set]
  exact retC_by (by repeat' (first|exact Drop.refl _|with_reducible refine Drop.off ?_ (by assumption))) (.refl _) ⟨rfl,rfl⟩
theorem tree_map (e:Edt) (he:e.fit) (c:Nat):MapG Nd.ok (.func (.func 38) [] [.ptr c 0]) e.node (EdtAt e c):=by
 refine ⟨38,[.ptr c 0],rfl,by kernel_rfl,fun σ b r hσ hb=>?_,fun x σ hσ hx ho=>shTree1_ok e he c x hx ho σ hσ⟩
 unfold EdtAt at *
 rw [ASt.set_ne]
 ·exact hσ
 ·rintro rfl;rw [hb] at hσ;cases hσ
theorem shtree_ok (e:Edt) (he:e.fit) (n:Nd) (hn:n.ok) (hs:n.size<=1000000000):Pure Tryz.prog 11 [e.av,n.av] (e.tree n).av:=by
 intro σ
 have hM:=fun c=>mapg_le _ e.node (EdtAt e c) Nd.ok ok_kids (tree_map e he c) n.size n (Nat.le_refl _) hs hn
 unfold Edt.tree
 obtain ⟨⟨wo,wm,ws,wa,wb,wk⟩,hw⟩:∃ w,Nd.map e.node n=w:=⟨_,rfl⟩
 rw [hw,Nd.av_cs]
 simp only [hw,Nd.av_cs] at hM
 obtain ⟨op,m,s,a,b,ks⟩:=n
 have hav:(Nd.mk op m s a b ks).av = .agg [.int .i64 op,.int .i64 m,.str s,.int .i64 a.row,.int .i64 a.col,.bool a.absRow,.bool a.absCol,.int .i64 b.row,.int .i64 b.col,.bool b.absRow,.bool b.absCol,.sl .shr (ks.map Nd.av)]:=Nd.av_cs ..
 simp only [hav] at hM
 rw [hav]
 unfold Nd.cs at hM ⊢
 unfold Edt.av
 generalize ks.map Nd.av=L at *
 generalize wk.map Nd.av=WL at *
 refine a11 (by simp) ?_
 simp (disch:=first|assumption|omega) only [go_sem]
 refine boxC_by rfl fun c hc=>?_
 simp (disch:=first|assumption|omega) only [go_sem,Nat.reduceEqDiff,↓reduceIte]
 refine boxC_by rfl fun d hd=>?_
 have hcd:c≠d:=by rintro rfl;rw [ASt.set_same] at hd;cases hd
 have hdc:=hcd.symm
 have hd0:=hd
 rw [ASt.set_ne hdc] at hd0
 simp (disch:=first|assumption|omega) only [go_sem]
 refine allocC_by fun t ht=>?_
 have hct:c≠t:=by rintro rfl;rw [ASt.set_ne hcd,ASt.set_same] at ht;cases ht
 repeat (with_reducible replace ht:=set_none ht;obtain ⟨_,_,ht⟩:=ht)
 simp (disch:=first|assumption|omega) only [go_sem,Nat.reduceEqDiff,Nat.reduceAdd,Nat.reduceLeDiff,↓reduceIte]
 refine (hM c _ ?_).mono ?_
 ·unfold EdtAt
  rw [ASt.set_ne hct,ASt.set_ne hcd,ASt.set_same]
 rintro v σ' ⟨rfl,rfl⟩
 simp (disch:=first|assumption|omega) only [go_sem,Nat.reduceEqDiff,Nat.reduceAdd,Nat.reduceLeDiff,↓reduceIte,Bool.true_and,ASt.set_set]
 exact retC_by (by repeat' (first|exact Drop.refl _|with_reducible refine Drop.off ?_ (by assumption))) (.refl _) ⟨rfl,rfl⟩
end Go.A
namespace Go.A
open Go.Proofs
/-! 15: tabular/shift.Copy -/
/-! 41: tabular/shift.Copy$1 -/
end Go.A
namespace Go.A
open Go.Proofs
/-! 12: tabular/tabularlaw14.awake -/
end Go.A
namespace Go.A
open Go.Proofs Go.Lib
theorem LV.set {σ:ASt} {b:Nat} {r:Option Role} (h:LV σ) (hb:σ b=none):LV (σ.set b r):=by
 unfold LV at h ⊢
 rw [ASt.set_ne]
 ·exact h
 ·intro e;rw [e,hb] at h;cases h
end Go.A
namespace Go.A
open Go.Proofs Go.Lib
mutual
def Nd.allR (Q:Nd->Prop):Nd->Prop
 | .mk op n s a b ks=>if op=5\/op=6 then Q (.mk op n s a b ks) else Nd.allRs Q ks
def Nd.allRs (Q:Nd->Prop):List Nd->Prop
 | []=>True
 | x::xs=>Nd.allR Q x/\Nd.allRs Q xs
end
mutual
theorem Nd.allR_mono {Q Q':Nd->Prop} (h:∀ x,(x.op=5\/x.op=6)->Q x->Q' x):∀ {n:Nd},Nd.allR Q n->Nd.allR Q' n
 | .mk op n s a b ks,k=>by
   rw [Nd.allR] at k ⊢
   split
   ·rename_i ho
    rw [if_pos ho] at k
    exact h _ ho k
   ·rename_i ho
    rw [if_neg ho] at k
    exact Nd.allRs_mono h k
theorem Nd.allRs_mono {Q Q':Nd->Prop} (h:∀ x,(x.op=5\/x.op=6)->Q x->Q' x):∀ {l:List Nd},Nd.allRs Q l->Nd.allRs Q' l
 | [],_=>by rw [Nd.allRs];trivial
 | x::xs,k=>by
   rw [Nd.allRs] at k ⊢
   exact ⟨Nd.allR_mono h k.1,Nd.allRs_mono h k.2⟩
end
theorem gd_kids {op n:Int} {s:List UInt8} {a b:Ref} {ks:List Nd} (h:(Nd.mk op n s a b ks).gd):∀ x∈ks,x.gd:=by
 obtain ⟨h1,h2⟩:=h
 rw [Nd.ok] at h1
 rw [Nd.nk] at h2
 exact fun x hx=>⟨Nd.oks_mem.1 h1.2 x hx,nks_mem.1 h2.2 x hx⟩
mutual
theorem gd_refs:∀ {n:Nd},n.gd->Nd.allR Nd.gd n
 | .mk op n s a b ks,h=>by
   rw [Nd.allR]
   split
   ·exact h
   ·exact gds_refs (gd_kids h)
theorem gds_refs:∀ {l:List Nd},(∀ x∈l,x.gd)->Nd.allRs Nd.gd l
 | [],_=>by rw [Nd.allRs];trivial
 | x::xs,h=>by
   rw [Nd.allRs]
   exact ⟨gd_refs (h x List.mem_cons_self),gds_refs fun y hy=>h y (List.mem_cons_of_mem _ hy)⟩
end
theorem maps_len (f:Nd->Nd) (l:List Nd):(Nd.maps f l).length=l.length:=by rw [Nd.maps_map,List.length_map]
mutual
theorem map_gd {f:Nd->Nd}:∀ {n:Nd},n.gd->Nd.allR (fun x=>(f x).gd) n->(Nd.map f n).gd
 | .mk op n s a b ks,h,k=>by
   rw [Nd.allR] at k
   rw [Nd.map]
   split
   ·rename_i ho
    rw [if_pos ho] at k
    exact k
   ·rename_i ho
    rw [if_neg ho] at k
    have hk:=h.1
    rw [Nd.ok] at hk
    exact gd_mk (by rw [maps_len];exact hk.1) (fun h=>absurd h ho) (maps_gd (gd_kids h) k)
theorem maps_gd {f:Nd->Nd}:∀ {l:List Nd},(∀ x∈l,x.gd)->Nd.allRs (fun x=>(f x).gd) l->∀ x∈Nd.maps f l,x.gd
 | [],_,_=>by rw [Nd.maps];exact no_kids (x:=missN)
 | x::xs,h,k=>by
   rw [Nd.allRs] at k
   rw [Nd.maps]
   intro y hy
   rcases List.mem_cons.1 hy with rfl|hy
   ·exact map_gd (h x List.mem_cons_self) k.1
   ·exact maps_gd (fun z hz=>h z (List.mem_cons_of_mem _ hz)) k.2 y hy
end
end Go.A
namespace Go.A
open Go.Proofs Go.Lib
structure Edt.six (e:Edt):Prop where
 a0:0<=e.at'
 n1:1<=e.n
 k:(e.kind=1/\e.at'<=600)\/(e.kind=2/\e.at'+e.n<=600)\/(e.kind=3/\e.at'+e.n<=600/\0<=e.dst/\e.dst+e.n<=600)
theorem good_six {e:Edt} (h:e.good 600=true):e.six:=by
 unfold Edt.good at h
 split at h
 ·cases h
 rename_i h0
 split at h
 ·rename_i k
  have:=of_decide_eq_true h
  exact ⟨by omega,by omega,.inl ⟨k,by omega⟩⟩
 split at h
 ·rename_i k
  have:=of_decide_eq_true h
  exact ⟨by omega,by omega,.inr (.inl ⟨k,by omega⟩)⟩
 split at h
 ·rename_i k
  have:=of_decide_eq_true h
  exact ⟨by omega,by omega,.inr (.inr ⟨k,by omega,by omega,by omega⟩)⟩
 ·cases h
theorem ahead_eq (p d i:Int):(p<=i/\ahead p d i=i+d)\/(¬ p<=i/\ahead p d i=i):=by
 unfold ahead
 split
 ·exact .inl ⟨by assumption,rfl⟩
 ·exact .inr ⟨by assumption,rfl⟩
theorem place_ins {e:Edt} (k:e.kind=1) (i:Int):e.place i=(ahead e.at' e.n i,decide (ahead e.at' e.n i<e.most)):=by unfold Edt.place;rw [if_pos k]
theorem place_del {e:Edt} (k:e.kind=2) {i:Int} (h:¬ (e.at'<=i/\i<e.at'+e.n)):e.place i=(ahead e.at' (-e.n) i,true):=by
 unfold Edt.place;rw [if_neg (by omega),if_neg h,if_pos k]
theorem place_gone {e:Edt} (k:e.kind=2) {i:Int} (h:e.at'<=i/\i<e.at'+e.n):e.place i=(0,false):=by
 unfold Edt.place;rw [if_neg (by omega),if_pos h,if_pos k]
theorem place_mov {e:Edt} (k:e.kind=3) (i:Int):(e.at'<=i/\i<e.at'+e.n/\e.place i=(i-e.at'+e.dst,true))\/(¬ (e.at'<=i/\i<e.at'+e.n)/\e.place i=(ahead e.dst e.n (ahead e.at' (-e.n) i),true)):=by
 by_cases h:e.at'<=i/\i<e.at'+e.n
 ·refine .inl ⟨h.1,h.2,?_⟩
  unfold Edt.place;rw [if_neg (by omega),if_pos h,if_neg (by omega)]
 ·refine .inr ⟨h,?_⟩
  unfold Edt.place;rw [if_neg (by omega),if_neg h,if_neg (by omega)]
theorem set_good {e:Edt} {a:Ref} {i:Int} (ha:a.good=true) (h0:0<=i) (h1:i<e.most):(e.set a i).good=true:=by
 simp only [Ref.good,decide_eq_true_eq] at ha ⊢
 unfold Edt.set
 unfold Edt.most at h1
 split
 ·rename_i hc;rw [if_pos hc] at h1;dsimp only;omega
 ·rename_i hc;rw [if_neg hc] at h1;dsimp only;omega
theorem gone_gd:goneN.gd:=leaf_gd ⟨by decide,fun h=>by omega,fun h=>by omega,fun _=>by decide,fun h=>by omega,fun h=>by omega,fun h=>by omega,fun h=>by omega,fun h=>by omega,by decide⟩
end Go.A
namespace Go.A
open Go.Proofs Go.Lib
theorem decN0 {n b0 b1 b2 b3:Nat} (h1:¬ (1<n/\b1 / 64=2)):decodeN n b0 b1 b2 b3=if b0<128 then (b0,1) else (65533,1):=by
 unfold decodeN
 by_cases h0:b0<128
 ·rw [if_pos h0,if_pos h0]
 ·rw [if_neg h0,if_neg h0,if_neg (fun h=>h1 h.2),if_neg (fun h=>h1 h.2.1),if_neg (fun h=>h1 h.2.1)]
theorem decN1 {n b0 b1 b2 b3:Nat} (h1:1<n/\b1 / 64=2) (h2:¬ (2<n/\b2 / 64=2)):decodeN n b0 b1 b2 b3=if b0<128 then (b0,1) else if b0 / 32=6 then (if b0 % 32*64+b1 % 64 ≥ 128 then (b0 % 32*64+b1 % 64,2) else (65533,1)) else (65533,1):=by
 unfold decodeN
 by_cases h0:b0<128
 ·rw [if_pos h0,if_pos h0]
 rw [if_neg h0,if_neg h0]
 by_cases h6:b0 / 32=6
 ·rw [if_pos ⟨h6,h1⟩,if_pos h6]
 ·rw [if_neg (fun h=>h6 h.1),if_neg h6,if_neg (fun h=>h2 h.2.2),if_neg (fun h=>h2 h.2.2.1)]
theorem decN2 {n m b0 b1 b2 b3 b3':Nat} (h1:1<n/\b1 / 64=2) (h2:2<n/\b2 / 64=2) (h3:¬ (3<n/\b3 / 64=2)) (hm:2<m) (h3':¬ (3<m/\b3' / 64=2)):decodeN n b0 b1 b2 b3=decodeN m b0 b1 b2 b3':=by
 unfold decodeN
 have e1:(1<n/\b1 / 64=2)=(1<m/\b1 / 64=2):=propext ⟨fun h=>⟨by omega,h.2⟩,fun h=>h1⟩
 have e2:(2<n/\b2 / 64=2)=(2<m/\b2 / 64=2):=propext ⟨fun h=>⟨by omega,h.2⟩,fun h=>h2⟩
 simp only [e1,e2,h3,h3',and_false,if_false]
theorem decN4 {n m b0 b1 b2 b3:Nat} (hn:3<n) (hm:3<m):decodeN n b0 b1 b2 b3=decodeN m b0 b1 b2 b3:=by
 unfold decodeN
 have e1:(1<n)=(1<m):=propext ⟨fun _=>by omega,fun _=>by omega⟩
 have e2:(2<n)=(2<m):=propext ⟨fun _=>by omega,fun _=>by omega⟩
 have e3:(3<n)=(3<m):=propext ⟨fun _=>by omega,fun _=>by omega⟩
 simp only [e1,e2,e3]
def Stop (x:List UInt8):Prop:=∀ c y,x=c::y->c.toNat / 64≠2
theorem Stop.at {x:List UInt8} (h:Stop x) (m:Nat):¬ (m<m+x.length/\(x.getD 0 0).toNat / 64=2):=by
 rintro ⟨h1,h2⟩
 cases x with
 | nil=>simp at h1
 | cons c y=>exact h c y rfl h2
theorem decode_local {r x:List UInt8} (hr:r ≠ []) (hx:Stop x):decodeL (r++x)=decodeL r:=by
 rw [decodeL_N,decodeL_N]
 match r,hr with
 | [a],_=>
   have h1:=hx.at 1
   have e:([a]++x).length=1+x.length:=by simp;omega
   rw [e]
   refine (decN0 ?_).trans (decN0 ?_).symm
   ·exact h1
   ·simp
 | [a,b],_=>
   have h1:=hx.at 2
   have e:([a,b]++x).length=2+x.length:=by simp;omega
   rw [e]
   by_cases c1:b.toNat / 64=2
   ·refine (decN1 ⟨by omega,c1⟩ ?_).trans (decN1 ⟨by simp,c1⟩ ?_).symm
    ·exact h1
    ·simp
   ·refine (decN0 ?_).trans (decN0 ?_).symm
    ·exact fun h=>c1 h.2
    ·exact fun h=>c1 h.2
 | [a,b,c],_=>
   have h1:=hx.at 3
   have e:([a,b,c]++x).length=3+x.length:=by simp;omega
   rw [e]
   by_cases c1:b.toNat / 64=2
   ·by_cases c2:c.toNat / 64=2
    ·refine decN2 ⟨by omega,c1⟩ ⟨by omega,c2⟩ h1 (by simp) ?_
     simp
    ·refine (decN1 ⟨by omega,c1⟩ ?_).trans (decN1 ⟨by simp,c1⟩ ?_).symm
     ·exact fun h=>c2 h.2
     ·exact fun h=>c2 h.2
   ·refine (decN0 ?_).trans (decN0 ?_).symm
    ·exact fun h=>c1 h.2
    ·exact fun h=>c1 h.2
 | a::b::c::d::t,_=>exact decN4 (by simp) (by simp)
theorem decode_whole {r:List UInt8} {c w:Nat} (hr:r ≠ []) (hd:decodeL r=(c,w)) (hv:(c,w)≠(65533,1)) (t:List UInt8):decodeL (r.take w++t)=(c,w):=by
 have hpos:=List.length_pos_iff.2 hr
 rw [decodeL_N] at hd ⊢
 have k0:=(r.getD 0 0).toNat_lt
 have k1:=(r.getD 1 0).toNat_lt
 rcases decodeN_shape r.length (r.getD 0 0).toNat (r.getD 1 0).toNat (r.getD 2 0).toNat (r.getD 3 0).toNat with ⟨c1,e⟩|⟨c1,c2,c3,cv,e⟩|⟨c1,c2,c3,c4,cv,cs,e⟩|⟨c1,c2,c3,c4,c5,cv,cw,e⟩|e
 ·rw [e] at hd
  injection hd with h1 h2
  subst h1 h2
  rw [takeA r hpos]
  generalize r.getD 0 0=b0 at *
  have e0:(([b0]++t).getD 0 0)=b0:=rfl
  rw [e0]
  unfold decodeN
  rw [if_pos c1]
 ·rw [e] at hd
  injection hd with h1 h2
  subst h1 h2
  rw [takeB r c2]
  generalize r.getD 0 0=b0 at *
  generalize r.getD 1 0=b1 at *
  have e0:(([b0,b1]++t).getD 0 0)=b0:=rfl
  have e1:(([b0,b1]++t).getD 1 0)=b1:=rfl
  have el:1<([b0,b1]++t).length:=by simp
  rw [e0,e1]
  unfold decodeN
  rw [if_neg (by omega),if_pos ⟨c1,el,c3⟩,if_pos (by omega)]
 ·rw [e] at hd
  injection hd with h1 h2
  subst h1 h2
  rw [takeC r c2]
  generalize r.getD 0 0=b0 at *
  generalize r.getD 1 0=b1 at *
  generalize r.getD 2 0=b2 at *
  have e0:(([b0,b1,b2]++t).getD 0 0)=b0:=rfl
  have e1:(([b0,b1,b2]++t).getD 1 0)=b1:=rfl
  have e2:(([b0,b1,b2]++t).getD 2 0)=b2:=rfl
  have el:2<([b0,b1,b2]++t).length:=by simp
  rw [e0,e1,e2]
  unfold decodeN
  rw [if_neg (by omega),if_neg (by omega),if_pos ⟨c1,⟨by omega,c3⟩,el,c4⟩,if_pos (by omega)]
 ·rw [e] at hd
  injection hd with h1 h2
  subst h1 h2
  rw [takeD r c2]
  generalize r.getD 0 0=b0 at *
  generalize r.getD 1 0=b1 at *
  generalize r.getD 2 0=b2 at *
  generalize r.getD 3 0=b3 at *
  have e0:(([b0,b1,b2,b3]++t).getD 0 0)=b0:=rfl
  have e1:(([b0,b1,b2,b3]++t).getD 1 0)=b1:=rfl
  have e2:(([b0,b1,b2,b3]++t).getD 2 0)=b2:=rfl
  have e3:(([b0,b1,b2,b3]++t).getD 3 0)=b3:=rfl
  have el:3<([b0,b1,b2,b3]++t).length:=by simp
  rw [e0,e1,e2,e3]
  unfold decodeN
  rw [if_neg (by omega),if_neg (by omega),if_neg (by omega),if_pos ⟨c1,⟨by omega,c3⟩,⟨by omega,c4⟩,el,c5⟩,if_pos (by omega)]
 ·rw [e] at hd
  exact absurd hd.symm hv
end Go.A
namespace Go.A
open Go.Proofs Go.Lib
def Tok.sh (a c:Nat) (t:Tok):Tok:=⟨t.kind,t.text,t.at'+a,t.col+c⟩
abbrev Rel:=Nat ⊕ (List Tok×Nat)
def Rel.sh (a c:Nat):Rel->Rel
 | .inl j => .inl (a+j)
 | .inr (ts,m) => .inr (ts.map (Tok.sh a c),c+m)
def rel:Nat->List UInt8->Rel
 | 0,_ => .inl 0
 | k+1,r=>
   if r = [] then .inr ([],0)
   else match stepP r with
    | .bad j => .inl j
    | .blank=>(rel k (r.drop 1)).sh 1 1
    | .tok kind t n=>match (rel k (r.drop n)).sh n (signsN (r.take n)) with
      | .inl j => .inl j
      | .inr (ts,m) => .inr (⟨kind,t,0,0⟩::ts,m)
theorem rel_fuel:∀ (k k':Nat) (r:List UInt8),r.length<k->r.length<k'->rel k r=rel k' r
 | 0,_,r,h,_=>by omega
 | _+1,0,r,_,h=>by omega
 | k+1,k'+1,r,h,h'=>by
   unfold rel
   by_cases hr:r = []
   ·rw [if_pos hr,if_pos hr]
   rw [if_neg hr,if_neg hr]
   have hpos:=List.length_pos_iff.2 hr
   have hf:=(stepP_fits r hr).2
   cases hs:stepP r with
   | bad j=>rfl
   | blank=>dsimp only;rw [rel_fuel k k' (r.drop 1) (by rw [List.length_drop];omega) (by rw [List.length_drop];omega)]
   | tok kd t n=>
     obtain ⟨h1,h2⟩:=hf kd t n hs
     dsimp only
     rw [rel_fuel k k' (r.drop n) (by rw [List.length_drop];omega) (by rw [List.length_drop];omega)]
def relP (r:List UInt8):Rel:=rel (r.length+1) r
theorem relP_nil:relP [] = .inr ([],0):=rfl
theorem relP_step {r:List UInt8} (hr:r ≠ []):relP r=match stepP r with
   | .bad j => .inl j
   | .blank=>(relP (r.drop 1)).sh 1 1
   | .tok kind t n=>match (relP (r.drop n)).sh n (signsN (r.take n)) with
     | .inl j => .inl j
     | .inr (ts,m) => .inr (⟨kind,t,0,0⟩::ts,m):=by
 have hpos:=List.length_pos_iff.2 hr
 have hf:=(stepP_fits r hr).2
 conv=>lhs;unfold relP rel
 rw [if_neg hr]
 cases hs:stepP r with
 | bad j=>rfl
 | blank=>dsimp only;unfold relP;rw [rel_fuel _ ((r.drop 1).length+1) (r.drop 1) (by rw [List.length_drop];omega) (by omega)]
 | tok kd t n=>
   obtain ⟨h1,h2⟩:=hf kd t n hs
   dsimp only
   unfold relP
   rw [rel_fuel _ ((r.drop n).length+1) (r.drop n) (by rw [List.length_drop];omega) (by omega)]
def endOf (a c:Nat) (acc:List Tok) (L:Nat):Rel->List Tok×Nat×Int
 | .inl j=>([],a+j,10)
 | .inr (ts,m)=>(acc++ts.map (Tok.sh a c) ++ [⟨0,[],a+L,c+m⟩],0,0)
theorem lexF_rel:∀ (k:Nat) (r:List UInt8) (a c:Nat) (acc:List Tok),r.length<k->lexF k r a c acc=endOf a c acc r.length (relP r)
 | 0,r,a,c,acc,h=>by omega
 | k+1,r,a,c,acc,h=>by
   unfold lexF
   by_cases hr:r = []
   ·subst hr
    rw [if_pos rfl,relP_nil]
    simp [endOf]
   rw [if_neg hr,relP_step hr]
   have hpos:=List.length_pos_iff.2 hr
   have hf:=(stepP_fits r hr).2
   cases hs:stepP r with
   | bad j=>rfl
   | blank=>
     dsimp only
     rw [lexF_rel k (r.drop 1) _ _ _ (by rw [List.length_drop];omega),List.length_drop]
     cases relP (r.drop 1) with
     | inl j=>simp only [Rel.sh,endOf];rw [Nat.add_assoc]
     | inr x=>
       obtain ⟨ts,m⟩:=x
       simp only [Rel.sh,endOf,List.map_map]
       rw [show a+1+(r.length-1)=a+r.length by omega,Nat.add_assoc c 1 m]
       congr 4
       funext t
       simp [Tok.sh,Nat.add_comm,Nat.add_left_comm,Function.comp]
   | tok kd t n=>
     obtain ⟨h1,h2⟩:=hf kd t n hs
     dsimp only
     rw [lexF_rel k (r.drop n) _ _ _ (by rw [List.length_drop];omega),List.length_drop]
     cases relP (r.drop n) with
     | inl j=>simp only [Rel.sh,endOf];rw [Nat.add_assoc]
     | inr x=>
       obtain ⟨ts,m⟩:=x
       simp only [Rel.sh,endOf,List.map_map,List.map_cons,List.append_assoc,List.cons_append,List.nil_append]
       rw [show a+n+(r.length-n)=a+r.length by omega,Nat.add_assoc c _ m]
       have e:Tok.sh (a+n) (c+signsN (r.take n))=Tok.sh a c ∘ Tok.sh n (signsN (r.take n)):=by
        funext t
        simp [Tok.sh,Nat.add_comm,Nat.add_left_comm,Function.comp]
       have e0:Tok.sh a c ⟨kd,t,0,0⟩=⟨kd,t,a,c⟩:=by simp [Tok.sh]
       rw [e,e0]
theorem lexP_rel {s:List UInt8} (h:s.length<=2000):lexP s=endOf 0 0 [] s.length (relP s):=by
 unfold lexP
 rw [if_neg (by omega),lexF_rel _ _ _ _ _ (by omega)]
end Go.A
namespace Go.A
open Go.Proofs Go.Lib
theorem sgF_fuel:∀ (k k':Nat) (r:List UInt8),r.length<k->r.length<k'->sgF k r=sgF k' r
 | 0,_,r,h,_=>by omega
 | _+1,0,r,_,h=>by omega
 | k+1,k'+1,r,h,h'=>by
   unfold sgF
   by_cases hr:r = []
   ·rw [if_pos hr,if_pos hr]
   have hpos:=List.length_pos_iff.2 hr
   have hw:=decodeL_width r
   rw [if_neg hr,if_neg hr,sgF_fuel k k' _ (by rw [List.length_drop];omega) (by rw [List.length_drop];omega)]
def sgP (r:List UInt8):Option Nat:=sgF (r.length+1) r
theorem sgP_nil:sgP []=some 0:=rfl
theorem sgP_step {r:List UInt8} (hr:r ≠ []):sgP r=if decodeL r=(65533,1) then none else (sgP (r.drop (decodeL r).2)).map (· + 1):=by
 have hpos:=List.length_pos_iff.2 hr
 have hw:=decodeL_width r
 conv=>lhs;unfold sgP sgF
 unfold sgP
 rw [if_neg hr,sgF_fuel r.length ((r.drop (decodeL r).2).length+1) _ (by rw [List.length_drop];omega) (by omega)]
def cnt:Nat->List UInt8->Nat
 | 0,_=>0
 | k+1,r=>if r = [] then 0 else 1+cnt k (r.drop (decodeL r).2)
theorem runeCount_cnt (l:List UInt8):∀ (k pos:Nat),runeCountFrom ⟨⟨l⟩⟩ k pos=cnt k (l.drop pos)
 | 0,_=>rfl
 | k+1,pos=>by
   unfold runeCountFrom cnt
   have e:(⟨⟨l⟩⟩:ByteArray).size=l.length:=rfl
   rw [e]
   by_cases h:pos<l.length
   ·have hne:l.drop pos ≠ []:=by
     intro h2
     have:=congrArg List.length h2
     simp at this
     omega
    have hd:=decodeL_drop ⟨⟨l⟩⟩ pos
    have hd:decodeL (l.drop pos)=Utf8.decode ⟨⟨l⟩⟩ pos:=hd
    rw [if_pos h,if_neg hne,runeCount_cnt l k,hd,List.drop_drop]
   ·rw [if_neg h,if_pos (List.drop_eq_nil_of_le (by omega))]
theorem cnt_fuel:∀ (k k':Nat) (r:List UInt8),r.length<=k->r.length<=k'->cnt k r=cnt k' r
 | 0,k',r,h,_=>by
   have:r = []:=List.eq_nil_of_length_eq_zero (by omega)
   subst this
   cases k'<;>simp [cnt]
 | k+1,0,r,_,h=>by
   have:r = []:=List.eq_nil_of_length_eq_zero (by omega)
   subst this
   simp [cnt]
 | k+1,k'+1,r,h,h'=>by
   unfold cnt
   by_cases hr:r = []
   ·rw [if_pos hr,if_pos hr]
   have hpos:=List.length_pos_iff.2 hr
   have hw:=decodeL_width r
   rw [if_neg hr,if_neg hr,cnt_fuel k k' _ (by rw [List.length_drop];omega) (by rw [List.length_drop];omega)]
theorem signsN_step {r:List UInt8} (hr:r ≠ []):signsN r=1+signsN (r.drop (decodeL r).2):=by
 have hpos:=List.length_pos_iff.2 hr
 have hw:=decodeL_width r
 unfold signsN runeCount
 rw [runeCount_cnt,runeCount_cnt,List.drop_zero,List.drop_zero]
 have e1:(⟨⟨r⟩⟩:ByteArray).size=r.length:=rfl
 have e2:(⟨⟨r.drop (decodeL r).2⟩⟩:ByteArray).size=(r.drop (decodeL r).2).length:=rfl
 rw [e1,e2]
 obtain ⟨k,hk⟩:∃ k,r.length=k+1:=⟨r.length-1,by omega⟩
 rw [hk,cnt,if_neg hr]
 rw [cnt_fuel k _ _ (by rw [List.length_drop];omega) (Nat.le_refl _)]
inductive Sg:List UInt8->Nat->Prop
 | nil:Sg [] 0
 | cons {y z:List UInt8} {c n:Nat}:y ≠ []->(∀ t,decodeL (y++t)=(c,y.length))->(c,y.length)≠(65533,1)->Sg z n->Sg (y++z) (n+1)
theorem Sg.app {x:List UInt8} {n:Nat} (h:Sg x n) (t:List UInt8):sgP (x++t)=(sgP t).map (· + n)/\signsN (x++t)=n+signsN t:=by
 induction h with
 | nil=>simp
 | cons h1 h2 h3 _ ih=>
   rename_i y z c n _
   obtain ⟨i1,i2⟩:=ih
   have hne:(y++z)++t ≠ []:=by simp [h1]
   have hd:decodeL ((y++z)++t)=(c,y.length):=by rw [List.append_assoc];exact h2 _
   have hdr:((y++z)++t).drop y.length=z++t:=by rw [List.append_assoc,List.drop_left]
   rw [sgP_step hne,hd,if_neg h3,hdr,i1,signsN_step hne,hd,hdr,i2]
   refine ⟨?_,by omega⟩
   cases sgP t<;>simp [Nat.add_assoc]
theorem Sg.join {x z:List UInt8} {n m:Nat} (h:Sg x n) (k:Sg z m):Sg (x++z) (n+m):=by
 induction h with
 | nil=>simpa using k
 | cons h1 h2 h3 _ ih=>
   rw [List.append_assoc,Nat.add_right_comm]
   exact .cons h1 h2 h3 ih
theorem Sg.ascii:∀ x:List UInt8,(∀ c∈x,c.toNat<128)->Sg x x.length
 | [],_ => .nil
 | c::x,h=>by
   have hc:=h c (by simp)
   exact .cons (y := [c]) (by simp) (fun t=>dec_one c t hc) (by rw [ne_eq,Prod.mk.injEq];omega) (Sg.ascii x fun d hd=>h d (by simp [hd]))
theorem Sg.one {r:List UInt8} (hr:r ≠ []) (hv:decodeL r≠(65533,1)):Sg (r.take (decodeL r).2) 1:=by
 have hle:=decodeL_le r hr
 have hw:=decodeL_width r
 have hl:(r.take (decodeL r).2).length=(decodeL r).2:=List.length_take_of_le hle
 have:=Sg.cons (y:=r.take (decodeL r).2) (z := []) (c:=(decodeL r).1) (n:=0) (by
  intro h
  rw [h] at hl
  simp at hl
  omega) (fun t=>by rw [hl];exact decode_whole hr rfl hv t) (by rw [hl];exact hv) .nil
 simpa using this
theorem runL_all2 (p:UInt8->Bool):∀ l:List UInt8,∀ c∈l.take (runL p l),p c=true
 | [],c,h=>by simp [runL] at h
 | x::l,c,h=>by
   unfold runL at h
   split at h
   ·rename_i hx
    rw [List.take_succ_cons,List.mem_cons] at h
    rcases h with rfl|h
    ·exact hx
    ·exact runL_all2 p l c h
   ·simp at h
end Go.A
namespace Go.A
open Go.Proofs Go.Lib
theorem split_q:∀ s:List UInt8,∃ u v,s=u++v/\34 ∉ u/\(v = []\/∃ v',v=34::v')
 | []=>⟨[],[],rfl,by simp,.inl rfl⟩
 | c::s=>by
   by_cases hc:c=34
   ·subst hc;exact ⟨[],34::s,rfl,by simp,.inr ⟨s,rfl⟩⟩
   ·obtain ⟨u,v,h1,h2,h3⟩:=split_q s
    refine ⟨c::u,v,by rw [h1];rfl,?_,h3⟩
    simp only [List.mem_cons,not_or]
    exact ⟨fun e=>hc e.symm,h2⟩
theorem stop_q {v:List UInt8} (h:v = []\/∃ v',v=34::v'):Stop v:=by
 intro c y e
 rcases h with rfl|⟨v',rfl⟩
 ·cases e
 ·injection e with e1 _
  subst e1
  decide
end Go.A
