/- Part 10 of what TileBack leans on: Pi CodeOd Od Sd Ya Yd Ye Qe Qf Qd Qg Qh Qi CodeOe Oe CodeRa Ra CodeOf Of CodeOg CodeVh CodeRd CodeOh CodeOi CodeGi CodeXb CodeXd Xd CodeHv CodeRb CodeOj CodeOk CodeOl Ol. -/
import Derived.Test.YtfnhdjigeedieaaGreatDoorProg
import Derived.KernelRfl
import Derived.Lib.ValidLaws
import Derived.Test.YtfnhdjigeedieaaGreatDoorZTileBacki
set_option linter.defProp false
set_option linter.unusedSimpArgs false
set_option linter.unusedVariables false
set_option maxRecDepth 100000
section
attribute [local go_sem] reduceCtorEq Nat.reduceEqDiff Nat.reduceAdd Nat.reduceSub Nat.reduceMul Nat.reduceLeDiff Int.reduceLT Int.reduceLE Int.reduceEq Int.reduceNeg Int.reduceAdd Int.reduceSub Int.reduceMul true_imp_iff forall_const Nat.mul_one Int.reduceToNat Nat.reducePow Int.reducePow Bool.true_and Bool.false_and Bool.and_false
attribute [local go_sem ↓] reduceIte
namespace Go.A
open Go.Proofs Go.Lib
structure TokGd (t:Tok):Prop where
 k1:1<=t.kind
 k6:t.kind<=6
 len:t.text.length<=8100
 num:t.kind=1->numB t.text=true
 ref:t.kind=4->∃ w,refB w=true/\t.text=greatP w
 err:t.kind=5->t.text∈errTexts
 nam:t.kind=3->t.text ≠ []
theorem TokGd.of {kd:Int} {t:List UInt8} {a c:Nat} (h1:1<=kd) (h6:kd<=6) (hl:t.length<=8100) (hn:kd=1->numB t=true) (hr:kd=4->∃ w,refB w=true/\t=greatP w) (he:kd=5->t∈errTexts) (hm:kd=3->t ≠ []):TokGd ⟨kd,t,a,c⟩:=⟨h1,h6,hl,hn,hr,he,hm⟩
theorem no1 {p:Prop} {a b:Int} (h:a=b) (hn:decide (a=b)=false):p:=absurd h (of_decide_eq_false hn)
theorem quotedF_len:∀ (k:Nat) (r:List UInt8) (p:Nat) (acc:List UInt8) kd t n,quotedF k r p acc = .tok kd t n->kd=2/\t.length<=acc.length+4*r.length
 | 0,r,p,acc,kd,t,n,h=>by simp [quotedF] at h
 | k+1,r,p,acc,kd,t,n,h=>by
   by_cases hr:r = []
   ·subst hr;rw [quotedF_nil] at h;simp at h
   have hw:=decodeL_width r
   have hle:=decodeL_le r hr
   unfold quotedF at h
   rw [if_neg hr] at h
   split at h
   ·simp at h
   split at h
   ·have:=quotedF_len k _ _ _ kd t n h
    have he:=enc_le ((decodeL r).1:Int)
    rw [List.length_append,List.length_drop] at this
    exact ⟨this.1,by omega⟩
   split at h
   ·rename_i h1 h2 h3
    have hl2:=(List.getElem?_eq_some_iff.1 h3).1
    have:=quotedF_len k _ _ _ kd t n h
    rw [List.length_append,List.length_drop] at this
    simp only [List.length_cons,List.length_nil] at this
    exact ⟨this.1,by omega⟩
   ·simp only [Step.tok.injEq] at h
    obtain ⟨rfl,rfl,rfl⟩:=h
    exact ⟨rfl,by omega⟩
theorem failS_gd (r:List UInt8):∀ (es:List (List UInt8)) kd t n,failS r es = .tok kd t n->kd=5/\t∈es
 | [],kd,t,n,h=>by simp [failS] at h
 | e::es,kd,t,n,h=>by
   unfold failS at h
   split at h
   ·simp only [Step.tok.injEq] at h
    obtain ⟨rfl,rfl,rfl⟩:=h
    exact ⟨rfl,by simp⟩
   ·obtain ⟨h1,h2⟩:=failS_gd r es kd t n h
    exact ⟨h1,by simp [h2]⟩
theorem greatP_len (l:List UInt8):(greatP l).length=l.length:=by unfold greatP;simp
theorem greatP_ne {l:List UInt8} (h:l ≠ []):greatP l ≠ []:=fun e=>h (List.eq_nil_of_length_eq_zero (by rw [<-greatP_len,e];rfl))
theorem nameB_ne {l:List UInt8} (h:nameB l=true):l ≠ []:=by
 unfold nameB at h
 simp only [Bool.and_eq_true,decide_eq_true_eq] at h
 exact h.1.1
theorem alikeP_len (c:Int):(alikeP c).length<=2:=by
 unfold alikeP
 repeat' split
 all_goals decide
theorem stepP_gd (r:List UInt8) (hl:r.length<=2000) {kd:Int} {t:List UInt8} {n:Nat} (h:stepP r = .tok kd t n) (a c:Nat):TokGd ⟨kd,t,a,c⟩:=by
 unfold stepP at h
 dsimp only at h
 split at h
 ·simp at h
 split at h
 ·simp at h
 split at h
 ·unfold wordsS at h
  dsimp only at h
  have hw:(r.take (runL wordB r)).length<=8100:=by rw [List.length_take];omega
  split at h
  ·rename_i hn
   simp only [Step.tok.injEq] at h
   obtain ⟨rfl,rfl,rfl⟩:=h
   exact .of (by decide) (by decide) hw (fun _=>hn) (fun h=>no1 h (by decide)) (fun h=>no1 h (by decide)) (fun h=>no1 h (by decide))
  split at h
  ·rename_i hn
   simp only [Step.tok.injEq] at h
   obtain ⟨rfl,rfl,rfl⟩:=h
   exact .of (by decide) (by decide) (by rw [greatP_len];omega) (fun h=>no1 h (by decide)) (fun _=>⟨_,hn,rfl⟩) (fun h=>no1 h (by decide)) (fun h=>no1 h (by decide))
  split at h
  ·rename_i hn
   simp only [Step.tok.injEq] at h
   obtain ⟨rfl,rfl,rfl⟩:=h
   exact .of (by decide) (by decide) (by rw [greatP_len];omega) (fun h=>no1 h (by decide)) (fun h=>no1 h (by decide)) (fun h=>no1 h (by decide)) (fun _=>greatP_ne (nameB_ne hn))
  ·simp at h
 split at h
 ·obtain ⟨rfl,h2⟩:=quotedF_len _ _ _ _ _ _ _ h
  rw [List.length_drop] at h2
  simp only [List.length_nil] at h2
  exact .of (by decide) (by decide) (by omega) (fun h=>no1 h (by decide)) (fun h=>no1 h (by decide)) (fun h=>no1 h (by decide)) (fun h=>no1 h (by decide))
 split at h
 ·obtain ⟨rfl,h2⟩:=failS_gd _ _ _ _ _ h
  have:=errTexts_len t h2
  exact .of (by decide) (by decide) (by omega) (fun h=>no1 h (by decide)) (fun h=>no1 h (by decide)) (fun _=>h2) (fun h=>no1 h (by decide))
 ·unfold opS at h
  split at h
  ·simp only [Step.tok.injEq] at h
   obtain ⟨rfl,rfl,rfl⟩:=h
   have:=alikeP_len ((decodeL r).1:Int)
   exact .of (by decide) (by decide) (by omega) (fun h=>no1 h (by decide)) (fun h=>no1 h (by decide)) (fun h=>no1 h (by decide)) (fun h=>no1 h (by decide))
  ·split at h
   ·rename_i e he
    simp only [Step.tok.injEq] at h
    obtain ⟨rfl,rfl,rfl⟩:=h
    have:=twos_len e (twoS_fits r _ _ he).1
    exact .of (by decide) (by decide) (by omega) (fun h=>no1 h (by decide)) (fun h=>no1 h (by decide)) (fun h=>no1 h (by decide)) (fun h=>no1 h (by decide))
   ·split at h
    ·simp only [Step.tok.injEq] at h
     obtain ⟨rfl,rfl,rfl⟩:=h
     exact .of (by decide) (by decide) (by rw [List.length_take];omega) (fun h=>no1 h (by decide)) (fun h=>no1 h (by decide)) (fun h=>no1 h (by decide)) (fun h=>no1 h (by decide))
    ·simp at h
theorem lexF_gd:∀ (k:Nat) (r:List UInt8) (a c:Nat) (acc L:List Tok) (x:Nat),r.length<=2000->lexF k r a c acc=(L,x,0)->(∀ t∈acc,TokGd t)->∃ M a' c',L=M ++ [⟨0,[],a',c'⟩]/\(∀ t∈M,TokGd t)/\M.length<=acc.length+r.length
 | 0,r,a,c,acc,L,x,hr,h,hacc=>by simp [lexF] at h
 | k+1,r,a,c,acc,L,x,hr,h,hacc=>by
   rw [lexF] at h
   split at h
   ·simp only [Prod.mk.injEq] at h
    obtain ⟨rfl,_⟩:=h
    exact ⟨acc,a,c,rfl,hacc,by omega⟩
   ·rename_i hne
    have hpos:=List.length_pos_iff.2 hne
    split at h
    ·simp at h
    ·obtain ⟨M,a',c',h1,h2,h3⟩:=lexF_gd k _ _ _ _ _ _ (by rw [List.length_drop];omega) h hacc
     rw [List.length_drop] at h3
     exact ⟨M,a',c',h1,h2,by omega⟩
    ·rename_i kd t n hst
     obtain ⟨f1,f2⟩:=(stepP_fits r hne).2 kd t n hst
     obtain ⟨M,a',c',h1,h2,h3⟩:=lexF_gd k _ _ _ _ _ _ (by rw [List.length_drop];omega) h (fun u hu=>by
      rcases List.mem_append.1 hu with hu|hu
      ·exact hacc u hu
      ·simp at hu;subst hu;exact stepP_gd r hr hst a c)
     rw [List.length_drop,List.length_append,List.length_singleton] at h3
     exact ⟨M,a',c',h1,h2,by omega⟩
theorem lexP_gd {s:List UInt8} (h:(lexP s).2.2=0):∃ M a' c',(lexP s).1=M ++ [⟨0,[],a',c'⟩]/\(∀ t∈M,TokGd t)/\M.length<=2000:=by
 unfold lexP at h ⊢
 split
 ·rename_i hl;rw [if_pos hl] at h;cases h
 ·rename_i hl
  rw [if_neg hl] at h
  obtain ⟨R,hR⟩:∃ R,lexF (s.length+1) s 0 0 []=R:=⟨_,rfl⟩
  rw [hR] at h ⊢
  obtain ⟨L,x,e⟩:=R
  dsimp only at h ⊢
  subst h
  obtain ⟨M,a',c',h1,h2,h3⟩:=lexF_gd _ _ _ _ _ _ _ (by omega) hR (by simp)
  exact ⟨M,a',c',h1,h2,by simp at h3;omega⟩
theorem getD_app_left {M:List Tok} {e:Tok} {i:Nat} (h:i<M.length):(M ++ [e]).getD i endT=M.getD i endT:=by
 rw [List.getD_eq_getElem?_getD,List.getD_eq_getElem?_getD,List.getElem?_append_left h]
theorem getD_mem {M:List Tok} {i:Nat} (h:i<M.length):M.getD i endT∈M:=by
 rw [List.getD_eq_getElem?_getD,List.getElem?_eq_getElem h]
 exact List.getElem_mem h
theorem lex_toks {s:List UInt8} (h:(lexP s).2.2=0):TokOk (lexP s).1/\(lexP s).1.length<=2001/\∀ i,((lexP s).1.getD i endT).kind≠0->TokGd ((lexP s).1.getD i endT):=by
 obtain ⟨M,a',c',h1,h2,h3⟩:=lexP_gd h
 rw [h1]
 have hl:(M ++ [(⟨0,[],a',c'⟩:Tok)]).length=M.length+1:=by simp
 have hlast:(M ++ [(⟨0,[],a',c'⟩:Tok)]).getD M.length endT=⟨0,[],a',c'⟩:=by
  rw [List.getD_eq_getElem?_getD,List.getElem?_append_right (Nat.le_refl _),Nat.sub_self];rfl
 have hout:∀ i,M.length<i->(M ++ [(⟨0,[],a',c'⟩:Tok)]).getD i endT=endT:=fun i hi=>by
  rw [List.getD_eq_getElem?_getD,List.getElem?_eq_none (by rw [hl];omega)];rfl
 have hgd:∀ i,i<M.length->TokGd ((M ++ [(⟨0,[],a',c'⟩:Tok)]).getD i endT):=fun i hi=>by
  rw [getD_app_left hi];exact h2 _ (getD_mem hi)
 refine ⟨⟨⟨by rw [hl];omega,fun i hi=>?_,fun i hi hk=>?_⟩,by rw [hl];omega,fun i=>?_⟩,by rw [hl];omega,fun i hk=>?_⟩
 ·rw [hl] at hi
  obtain rfl:i=M.length:=by omega
  rw [hlast]
 ·rw [hl] at hi ⊢
  rcases Nat.lt_or_ge i M.length with h|h
  ·omega
  ·obtain rfl:i=M.length:=by omega
   rw [hlast] at hk
   exact absurd rfl hk
 ·rcases Nat.lt_trichotomy i M.length with h|h|h
  ·have:=(hgd i h).len;omega
  ·subst h;rw [hlast];simp
  ·rw [hout i h];simp [endT]
 ·rcases Nat.lt_trichotomy i M.length with h|h|h
  ·exact hgd i h
  ·subst h;rw [hlast] at hk;exact absurd rfl hk
  ·rw [hout i h] at hk;exact absurd rfl hk
def st0:PSt:=⟨0,0,0,0⟩
theorem st0_fit {T:List Tok} (h:Ends T):Fit T st0:=⟨h.pos,by decide,by decide,fun _=>by decide⟩
def parseR (s:List UInt8):Nd×Int×Int:=(parseT (30*(lexP s).1.length+30) s).getD (zN,0,0)
theorem betw_some {s:List UInt8} (h:(lexP s).2.2=0):∃ r,betwP (lexP s).1 (30*(lexP s).1.length+30) 0 st0=some r:=by
 obtain ⟨hT,_,_⟩:=lex_toks h
 refine (suffF hT.ends _).betw 0 st0 (by omega) (st0_fit hT.ends) ?_
 unfold Mz
 split
 ·show 30*(_-0)+20<=_
  omega
 ·omega
set_option maxHeartbeats 2000000 in
theorem parseR_ok {σ:ASt} (hU:U8 σ) (hV:LV σ) (s:List UInt8) (hs:s.length<=1000000000):ACalls Tryz.prog 27 [.str s] σ fun v σ'=>v = .tuple [(parseR s).1.av,.int .i64 (parseR s).2.1,.int .i64 (parseR s).2.2]/\σ'=σ:=by
 have hL:=fun (τ:ASt) (h:U8 τ)=>lex_ok h s hs
 obtain ⟨R,hR⟩:∃ R,parseR s=R:=⟨_,rfl⟩
 rw [hR]
 unfold parseR parseT at hR
 have hbs:=betw_some (s:=s)
 have hto:=lex_toks (s:=s)
 obtain ⟨FU,hFU⟩:∃ FU,30*(lexP s).1.length+30=FU:=⟨_,rfl⟩
 rw [hFU] at hR hbs
 generalize lexP s=X at *
 obtain ⟨T,at',er⟩:=X
 dsimp only at *
 have hz:∀ a e:Int,∀ σ σ':ASt,Fz σ σ' (resV [.agg [.int .i64 0,.int .i64 0,.str [],.int .i64 0,.int .i64 0,.bool false,.bool false,.int .i64 0,.int .i64 0,.bool false,.bool false,.sl .full []],.int .i64 a,.int .i64 e]) (.tuple [.agg (Nd.cs 0 0 [] .zero .zero []),.int .i64 a,.int .i64 e]):=fun a e σ σ'=>
  .tuple (.cons (.agg (.cons (.refl _) (.cons (.refl _) (.cons (.refl _) (.cons (.refl _) (.cons (.refl _) (.cons (.refl _) (.cons (.refl _) (.cons (.refl _) (.cons (.refl _) (.cons (.refl _) (.cons (.refl _) (.cons (.sl _ _) .nil))))))))))))) (.cons (.refl _) (.cons (.refl _) .nil)))
 refine a27 (by simp) ?_
 simp (disch:=first|assumption|omega) only [go_sem]
 refine allocC_by fun d hd=>?_
 have hUd:=hU.set hd (r:=some (.obj zero12))
 have hVd:LV (σ.set d (some (.obj zero12))):=by
  unfold LV at hV ⊢
  rw [ASt.set_ne]
  ·exact hV
  ·rintro e;rw [<-e,hV] at hd;cases hd
 unfold zero12 at hUd hVd
 simp (disch:=first|assumption|omega) only [go_sem]
 refine (hL _ hUd).mono ?_
 rintro v σ1 ⟨rfl,rfl⟩
 by_cases he:er=0
 ·rw [if_neg (by simp [he])] at hR
  obtain ⟨hT,hTl,_⟩:=hto he
  obtain ⟨r1,hr1⟩:=hbs he
  have hr1':betwP T FU 0 ⟨0,0,0,0⟩=some r1:=hr1
  rw [hr1'] at hR
  have hw:=(wentF hT.ends FU).betw _ _ _ hr1 (st0_fit hT.ends)
  have hwk:=(walkF hT FU).betw
  obtain ⟨n,s1⟩:=r1
  dsimp only at hR hw
  obtain ⟨s2,hs2⟩:∃ s2,(if (curT T s1).kind≠0 then failP T s1 10 else s1)=s2:=⟨_,rfl⟩
  rw [hs2] at hR
  simp (disch:=first|assumption|omega) only [go_sem,he]
  refine boxC_by rfl fun b hb=>?_
  have hbd:b≠d:=by rintro rfl;rw [ASt.set_same] at hb;cases hb
  have hb0:σ b=none:=by rwa [ASt.set_ne hbd] at hb
  have hbp:(σ.set b (pr T st0)) b=pr T st0:=ASt.set_same _ _ _
  have hVb:LV (σ.set b (pr T st0)):=by
   unfold LV at hV ⊢
   rw [ASt.set_ne]
   ·exact hV
   ·rintro e;rw [<-e,hV] at hb0;cases hb0
  obtain ⟨_,T2,S2⟩:=St2.of (σ:=σ.set b (pr T st0)) (b:=b) (d:=d) (by rw [ASt.set_ne (Ne.symm hbd)];exact hd) (pr_fix hbp).1 (pr_fix hbp).2
  have V2:∀ X Y,LV (T2 X Y):=fun X Y=>S2.fix _ _ _ _ hVb
  have hst:∀ Z:Option Role,(σ.set d Z).set b (some (.obj [.sl .shr (T.map tokAV),.int .i64 0,.int .i64 0,.int .i64 0,.int .i64 0]))=T2 (pr T st0) Z:=fun Z=>by
   have:=S2.ba (pr T st0) Z
   rw [<-this,set_swap hbd,ASt.set_set]
   rfl
  have k1:=S2.s1
  have hcb:=fun Y=>hwk b 0 st0 (n,s1) (by omega) hr1 (st0_fit hT.ends) _ (V2 (pr T st0) Y) (S2.a1 _ _)
  rw [show ((0:Nat):Int)=0 from rfl] at hcb
  dsimp only at hcb
  obtain ⟨o,m,t,x,y,ks⟩:=n
  simp only [Nd.av_cs] at hcb
  generalize hKL:ks.map Nd.av=KL at *
  simp (disch:=first|assumption|omega) only [go_sem,hst]
  refine (hcb _).mono ?_
  rintro v σ1 ⟨rfl,rfl⟩
  rw [k1]
  simp (disch:=first|assumption|omega) only [go_sem]
  refine allocC_by fun e he2=>?_
  obtain ⟨hbe,hde,T3,S3⟩:=St3.of S2 (X0 := .obj _) he2
  have ab:=S3.ab
  have k3:=S3.s3
  have k2:=S3.s2
  have k1:=S3.s1
  have w3:=S3.a3
  have w2:=S3.a2
  have w1:=S3.a1
  have hDr:∀ X Y Z,Drop (T3 X Y Z) σ:=fun X Y Z=>by
   have h1:=S3.drop X Y Z
   rw [ASt.set_set] at h1
   exact h1.trans (Drop.set hb0)
  have hcu:=fun Y Z=>pcur_ok (T:=T) hw.fit.i (w1 (pr T s1) Y Z)
  have hfl:=fun τ hh=>pfail_ok (T:=T) (s:=s1) hw.fit.i 10 (σ:=τ) (b:=b) hh
  generalize curT T s1=tk at *
  unfold tokAV at hcu
  obtain ⟨F,hF⟩:∃ F,F=ACode.wp Tryz.prog c27_20:=⟨_,rfl⟩
  have fin:∀ a1:AFr,(a1 2 = .ptr d 0/\a1 8 = .ptr b 0/\a1 9 = .ptr e 0)->F (RetQ [.c 2 (some 12),.t 3,.t 4] fun v σ'=>v = .tuple [R.1.av,.int .i64 R.2.1,.int .i64 R.2.2]/\σ'=σ) a1 (T3 (pr T s2) (some (.obj zero12)) (some (.obj (Nd.cs o m t x y KL)))):=by
   intro a1 hf1
   rw [hF]
   unfold zero12
   have x1:∀ Y Z,T3 (pr T s2) Y Z b=some (.obj [.sl .shr (T.map tokAV),.int .i64 s2.i,.int .i64 s2.deep,.int .i64 s2.err,.int .i64 s2.bad]):=fun Y Z=>w1 _ _ _
   by_cases h2:s2.err=0
   ·rw [if_neg (by simp [h2])] at hR
    have hR':(Nd.mk o m t x y ks,(0:Int),(0:Int))=R:=hR
    subst hR'
    dsimp only
    rw [Nd.av_cs,hKL]
    simp (disch:=first|assumption|omega) only [go_sem,hf1,x1,h2,w3,w2,k2]
    exact retC_by (hDr _ _ _) (.refl _) ⟨rfl,rfl⟩
   ·rw [if_pos h2] at hR
    have hR':(zN,s2.bad,s2.err)=R:=hR
    subst hR'
    dsimp only
    rw [zN_av]
    simp (disch:=first|assumption|omega) only [go_sem,hf1,x1,h2,w2,k2]
    exact retC_by (hDr _ _ _) (hz _ _ _ _) ⟨rfl,rfl⟩
  unfold zero12 at fin
  simp (disch:=first|assumption|omega) only [go_sem,ab,k3,w3,←hF]
  refine (hcu _ _).mono ?_
  rintro v σ1 ⟨rfl,rfl⟩
  by_cases hk:tk.kind=0
  ·rw [if_neg (by simp [hk])] at hs2
   subst hs2
   simp (disch:=first|assumption|omega) only [go_sem,hk]
   refine fin _ ?_
   simp (disch:=first|assumption|omega) only [go_sem]
  ·rw [if_pos hk] at hs2
   subst hs2
   simp (disch:=first|assumption|omega) only [go_sem,hk]
   refine (hfl _ (w1 _ _ _)).mono ?_
   rintro v σ1 ⟨rfl,rfl⟩
   rw [k1]
   simp (disch:=first|assumption|omega) only [go_sem]
   refine fin _ ?_
   simp (disch:=first|assumption|omega) only [go_sem]
 ·rw [if_pos he] at hR
  have hR':(zN,(at':Int),er)=R:=hR
  subst hR'
  rw [zN_av]
  simp (disch:=first|assumption|omega) only [go_sem,he,ASt.set_set]
  exact retC_by (Drop.set hd) (hz _ _ _ _) ⟨rfl,rfl⟩
end Go.A
namespace Go.A
open Go.Proofs
/-! 8: tabular/tabularlaw20.Cell -/
def c8_14:ACode := .seq (.ops [ oe 1 (.box (.t 0)),oe 2 (.alloc [(.int .i64 0),(.int .i64 0),(.str []),(.int .i64 0),(.int .i64 0),(.bool false),(.bool false),(.int .i64 0),(.int .i64 0),(.bool false),(.bool false),(.sl .full []),.nili])]) (.seq (.ops [ oq 7 (.fa 2 (.t 1)),oq 8 (.fa 2 (.t 7)),oq 9 (.ld none (.t 8)),oe 10 (.call 24 [(.t 9),(.v (.int .i64 60))]),oq 11 (.fa 2 (.t 1)),oq 12 (.fa 2 (.t 11)),oz (.store 1 (.t 12) (.t 10))]) (.seq (.ops [ oq 13 (.fa 2 (.t 1)),oq 14 (.ld (some 3) (.t 13)),oe 15 (.call 33 [(.t 14)]),oe 16 (.call 28 [(.t 15)]),oe 3 (.alloc [(.int .i64 0),(.int .i64 0),(.str []),(.int .i64 0),(.int .i64 0),(.bool false),(.bool false),(.int .i64 0),(.int .i64 0),(.bool false),(.bool false),(.sl .full []),.nili]),oz (.store 13 (.t 3) (.t 16))]) (.seq (.ops [ oq 18 (.fa 1 (.t 1)),oq 19 (.ld none (.t 18)),oe 20 (.call 24 [(.t 19),(.v (.int .i64 80))]),oe 21 (.call 27 [(.t 20)]),oq 17 (.mv (.t 21)),oq 22 (.ext 0 (.t 17)),oq 23 (.ext 1 (.t 17)),oq 24 (.ext 2 (.t 17)),oe 4 (.alloc [(.int .i64 0),(.int .i64 0),(.str []),(.int .i64 0),(.int .i64 0),(.bool false),(.bool false),(.int .i64 0),(.int .i64 0),(.bool false),(.bool false),(.sl .full [])]),oz (.store 12 (.t 4) (.t 22)),oq 5 (.mv (.t 23)),oq 6 (.mv (.t 24))]) (.seq (.seq (.ops [ oq 25 (.mv (.t 6)),oq 26 (.bin .eql (.t 25) (.v (.int .i64 0)))]) (.cond (.t 26) (.ops [ oq 27 (.ld (some 12) (.t 4)),oq 28 (.fa 0 (.t 3)),oz (.store 12 (.t 28) (.t 27))]) .skip)) (.seq (.ops [ oq 29 (.ld (some 13) (.t 3)),oz (.store 13 (.t 2) (.t 29))]) .ret)))))
@[go_sem] def c8_14_wp:=wp_of c8_14.eq_1
def c8:AFn:=⟨30,[.c 2 (some 13)],c8_14⟩
theorem c8_ok:compF Tryz.prog Tryz.f8=some c8:=by kernel_rfl
theorem a8 {args:List AV} {σ:ASt} {R:AV->ASt->Prop} (hl:args.length<=30) (h:c8_14.wp Tryz.prog (RetQ [.c 2 (some 13)] R) (init args) σ):ACalls Tryz.prog 8 args σ R:=acalls_of Tryz.func8 c8_ok hl h
/-! 28: tabular/tile.Plain -/
def c28_3:ACode := .seq (.ops [ oe 2 (.alloc [(.int .i64 0),(.int .i64 0),(.str []),(.int .i64 0),(.int .i64 0),(.bool false),(.bool false),(.int .i64 0),(.int .i64 0),(.bool false),(.bool false),(.sl .full []),.nili])]) (.seq (.ops [ oq 3 (.mv (.t 0)),oq 4 (.build [(.int .i64 0),(.int .i64 0),(.str []),(.int .i64 0),(.int .i64 0),(.bool false),(.bool false),(.int .i64 0),(.int .i64 0),(.bool false),(.bool false),(.sl .full []),.nili] [(12,1,(.t 3))]),oz (.store 13 (.t 2) (.t 4))]) .ret)
@[go_sem] def c28_3_wp:=wp_of c28_3.eq_1
def c28:AFn:=⟨5,[.c 2 (some 13)],c28_3⟩
theorem c28_ok:compF Tryz.prog Tryz.f28=some c28:=by kernel_rfl
theorem a28 {args:List AV} {σ:ASt} {R:AV->ASt->Prop} (hl:args.length<=5) (h:c28_3.wp Tryz.prog (RetQ [.c 2 (some 13)] R) (init args) σ):ACalls Tryz.prog 28 args σ R:=acalls_of Tryz.func28 c28_ok hl h
end Go.A
namespace Go.A
open Go.Proofs Go.Lib Go.Vint
theorem ACalls.soft {P:Program} {σ σ2:ASt} {f:FuncId} {args:List AV} {K:AV->ASt->Prop} (hd:SDrop σ σ2) (h:ACalls P f args σ2 K):ACalls P f args σ K:=by
 intro w vs hs hr
 refine (h w vs (hd.sim hs) (hr.mono (hd.le w))).mono ?_
 rintro e w' ⟨u,r,σ',he,hk,hle,hs',hr'⟩
 exact ⟨u,r,σ',he,hk,(hd.le w).trans hle,hs',hr'⟩
theorem lv_add20 {σ:ASt} {b:Nat} {r:Option Role} (h:LV σ) (hb:σ b=none):LV (σ.set b r):=by
 unfold LV at h ⊢
 rw [ASt.set_ne]
 ·exact h
 ·intro e;rw [e,hb] at h;cases h
theorem pv_deep (v:PV):Go.A.deep v.av=v.av:=by cases v<;>simp only [PV.av,deep,deeps]
def zCells (v:AV):List AV := [.int .i64 0,.int .i64 0,.str [],.int .i64 0,.int .i64 0,.bool false,.bool false,.int .i64 0,.int .i64 0,.bool false,.bool false,.sl .full [],v]
theorem zCells_deep (v:AV):deeps (zCells v)=cellCs 0 0 [] .zero .zero [] (Go.A.deep v):=by
 simp only [zCells,deep,deeps]
 rfl
theorem zNd_av (v:PV):TC.av ⟨zNd,some v⟩ = .agg (cellCs 0 0 [] .zero .zero [] v.av):=rfl
theorem tplain_ok (v:PV):Pure Tryz.prog 28 [v.av] (TC.av ⟨zNd,some v⟩):=by
 intro σ
 have hr:TC.av ⟨zNd,some v⟩=Go.A.deep (.agg (zCells v.av)):=by
  rw [zNd_av,deep,zCells_deep,pv_deep]
 rw [hr]
 obtain ⟨t,x,hx⟩:=av_iface v
 rw [hx]
 refine a28 (by simp) ?_
 simp (disch:=first|assumption|omega) only [go_sem]
 refine allocC_by fun c hc=>?_
 simp (disch:=first|assumption|omega) only [go_sem]
 exact retC_by (Drop.set hc) (.deep _) ⟨rfl,rfl⟩
def lcT (F:List UInt8):Nd:=if (parseR (F.take 80)).2.2=0 then (parseR (F.take 80)).1 else zNd
def lcC (F:List UInt8) (k n:Int) (S:List UInt8):TC:=⟨lcT F,some (ofP ⟨k,n,S.take 60⟩)⟩
theorem lcell_ok {σ:ASt} (hU:U8 σ) (hV:LV σ) (m:Int) (F:List UInt8) (k n:Int) (S:List UInt8):ACalls Tryz.prog 8 [.agg [.int .i64 m,.str F,.int .i64 k,.int .i64 n,.str S]] σ fun v σ'=>v=(lcC F k n S).av/\σ'=σ:=by
 have hC1:Pure Tryz.prog 24 [.str S,.int .i64 60] (.str (S.take 60)):=lcut_ok S 60
 have hC2:Pure Tryz.prog 24 [.str F,.int .i64 80] (.str (F.take 80)):=lcut_ok F 80
 have hO:=fun (τ:ASt) (h:U8 τ)=>of_ok h ⟨k,n,S.take 60⟩ (by show (S.take 60).length<=_;rw [List.length_take];omega)
 have hP:=tplain_ok (ofP ⟨k,n,S.take 60⟩)
 have hR:=fun (τ:ASt) (h:U8 τ) (h2:LV τ)=>parseR_ok h h2 (F.take 80) (by rw [List.length_take];omega)
 have hx:(lcC F k n S).av=TC.av ⟨if (parseR (F.take 80)).2.2=0 then (parseR (F.take 80)).1 else zNd,some (ofP ⟨k,n,S.take 60⟩)⟩:=rfl
 rw [hx]
 clear hx
 unfold plAV at hO
 dsimp only at hO
 rw [zNd_av] at hP
 generalize ofP ⟨k,n,S.take 60⟩=v at *
 generalize parseR (F.take 80)=R at *
 generalize S.take 60=S6 at *
 generalize F.take 80=F8 at *
 obtain ⟨⟨op,num,s,a,b,ks⟩,pl,e⟩:=R
 dsimp only at hR ⊢
 rw [Nd.av_cs] at hR
 have hz:TC.av ⟨zNd,some v⟩ = .agg (cellCs 0 0 [] .zero .zero [] v.av):=zNd_av v
 have hy:TC.av ⟨.mk op num s a b ks,some v⟩ = .agg (cellCs op num s a b (ks.map Nd.av) v.av):=rfl
 generalize hva:v.av=va at *
 obtain ⟨t0,x0,hvx⟩:=av_iface v
 rw [hva] at hvx
 subst hvx
 generalize ks.map Nd.av=L at *
 unfold cellCs at hP hz hy
 unfold Nd.cs at hR
 refine a8 (by simp) ?_
 simp (disch:=first|assumption|omega) only [go_sem]
 refine boxC_by rfl fun c1 h1=>?_
 simp (disch:=first|assumption|omega) only [go_sem]
 refine allocC_by fun c2 h2=>?_
 obtain ⟨n1,n2,h2'⟩:=set_none h2
 simp (disch:=first|assumption|omega) only [go_sem]
 refine hC1.use ?_
 have U2:=fun r r'=>U8.set (r:=r') (U8.set (r:=r) hU h1) (by rw [ASt.set_ne n1];exact h2')
 have V2:=fun r r'=>lv_add20 (r:=r') (lv_add20 (r:=r) hV h1) (by rw [ASt.set_ne n1];exact h2')
 simp (disch:=first|assumption|omega) only [go_sem,set_swap,ASt.set_set]
 refine (hO _ (U2 _ _)).mono ?_
 rintro v1 σ2 ⟨rfl,hσ2⟩
 have U3:=U2 (some (.obj [.int .i64 m,.str F,.int .i64 k,.int .i64 n,.str S6])) (some (.obj (zCells .nili)))
 have V3:=V2 (some (.obj [.int .i64 m,.str F,.int .i64 k,.int .i64 n,.str S6])) (some (.obj (zCells .nili)))
 have d3:Drop ((σ.set c1 (some (.obj [.int .i64 m,.str F,.int .i64 k,.int .i64 n,.str S6]))).set c2 (some (.obj (zCells .nili)))) σ:=(Drop.set (by rw [ASt.set_ne n1];exact h2')).trans (Drop.set h1)
 unfold zCells at U3 V3 d3
 rw [<-hσ2] at U3 V3 d3
 have hm1:σ2 c1=some (.obj [.int .i64 m,.str F,.int .i64 k,.int .i64 n,.str S6]):=by rw [hσ2,ASt.set_ne n2,ASt.set_same]
 have hm2:σ2 c2=some (.obj (zCells .nili)):=by rw [hσ2,ASt.set_same];rfl
 clear hσ2
 simp (disch:=first|assumption|omega) only [go_sem]
 refine hP.use ?_
 simp (disch:=first|assumption|omega) only [go_sem]
 refine allocC_by fun c3 h3=>?_
 have n31:c1≠c3:=by rintro rfl;rw [hm1] at h3;cases h3
 have n13:=n31.symm
 have n23:c2≠c3:=by rintro rfl;rw [hm2] at h3;cases h3
 have U4:=fun r=>U8.set (r:=r) U3 h3
 have V4:=fun r=>lv_add20 (r:=r) V3 h3
 have d4:=fun r=>(Drop.set (r:=r) h3).trans d3
 simp (disch:=first|assumption|omega) only [go_sem,hm1,ASt.set_set]
 refine hC2.use ?_
 simp (disch:=first|assumption|omega) only [go_sem]
 refine (hR _ (U4 _) (V4 _)).mono ?_
 rintro v1 σ3 ⟨rfl,hσ3⟩
 have hm2':σ3 c2=some (.obj (zCells .nili)):=by rw [hσ3,ASt.set_ne n23,hm2]
 unfold zCells at hm2'
 have hm3:=congrFun hσ3 c3
 rw [ASt.set_same] at hm3
 have d5:=d4 (some (.obj (cellCs 0 0 [] .zero .zero [] (.iface t0 x0))))
 unfold cellCs at d5
 rw [<-hσ3] at d5
 have z3:σ c3=none:=(d3 c3).elim (fun e=>by rw [e];exact h3) id
 clear hσ3
 simp (disch:=first|assumption|omega) only [go_sem]
 refine allocC_by fun c4 h4=>?_
 have n34:c3≠c4:=by rintro rfl;rw [hm3] at h4;cases h4
 have n24:c2≠c4:=by rintro rfl;rw [hm2'] at h4;cases h4
 have n43:=n34.symm
 have z4:σ c4=none:=(d5 c4).elim (fun e=>by rw [e];exact h4) id
 have n42:=n24.symm
 by_cases he:e=0
 ·rw [if_pos he,hy]
  simp (disch:=first|assumption|omega) only [go_sem,hm3,hm2',he,ASt.set_set]
  exact retC_by (Drop.off (Drop.off (Drop.off d5 z4) z3) h2') (.refl _) ⟨rfl,rfl⟩
 ·rw [if_neg he,hz]
  simp (disch:=first|assumption|omega) only [go_sem,hm3,hm2',he,ASt.set_set]
  exact retC_by (Drop.off (Drop.off d5 z4) h2') (.refl _) ⟨rfl,rfl⟩
end Go.A
namespace Go.A
open Go.Proofs Go.Lib
theorem columnP_rng (l:List UInt8):0<=(columnP l).1/\(columnP l).1<700:=by
 unfold columnP
 split
 ·split
  ·decide
  ·dsimp only;omega
 ·decide
theorem readQ_good (l:List UInt8) (i:Nat) (col:Int) (ar ac:Bool) (h:0<=col/\col<700):(readQ l i col ar ac).1.good=true:=by
 unfold readQ
 split
 ·rfl
 ·simp only [Ref.good,decide_eq_true_eq];omega
theorem readR_good (l:List UInt8) (i:Nat) (ac:Bool):(readR l i ac).1.good=true:=by
 unfold readR
 split
 ·rfl
 split
 ·exact readQ_good _ _ _ _ _ (columnP_rng _)
 ·exact readQ_good _ _ _ _ _ (columnP_rng _)
theorem parseP_good (l:List UInt8):(parseP l).1.good=true:=by
 unfold parseP
 split
 ·rfl
 ·unfold readP
  split
  ·exact readR_good _ _ _
  ·exact readR_good _ _ _
theorem parseQ_rng {m d:Bool} {w p:List UInt8} {v:Int} (h:parseQ m w p d=some v):v.natAbs<=999999999999999999:=by
 unfold parseQ at h
 split at h
 ·cases h
 ·obtain ⟨n,_,hn⟩:=Option.bind_eq_some_iff.1 h
  unfold madeP at hn
  split at hn
  ·injection hn with hn
   split at hn<;>omega
  ·cases hn
theorem parseD_rng {s:List UInt8} {v:Int} (h:parseD s=some v):v.natAbs<=999999999999999999:=parseQ_rng h
mutual
def Nd.nk:Nd->Prop
 | .mk op _ _ _ _ ks=>((op=5\/op=6)->ks = [])/\Nd.nks ks
def Nd.nks:List Nd->Prop
 | []=>True
 | x::xs=>x.nk/\Nd.nks xs
end
theorem nks_mem:∀ {l:List Nd},Nd.nks l↔∀ x∈l,x.nk
 | []=>by simp [Nd.nks]
 | x::xs=>by rw [Nd.nks,nks_mem (l:=xs)];simp
def Nd.gd (n:Nd):Prop:=n.ok/\n.nk
theorem gd_mk {op n:Int} {s:List UInt8} {a b:Ref} {ks:List Nd} (h:nodeOk op n s a b ks.length) (h2:(op=5\/op=6)->ks = []) (hk:∀ x∈ks,x.gd):(Nd.mk op n s a b ks).gd:=by
 constructor
 ·rw [Nd.ok]
  exact ⟨h,Nd.oks_mem.2 fun x hx=>(hk x hx).1⟩
 ·rw [Nd.nk]
  exact ⟨h2,nks_mem.2 fun x hx=>(hk x hx).2⟩
theorem no_kids {x:Nd}:∀ y∈([]:List Nd),y.gd:=fun y hy=>by cases hy
theorem miss_gd:missN.gd:=gd_mk ⟨by decide,fun h=>by omega,fun h=>by omega,fun h=>by omega,fun h=>by omega,fun h=>by omega,fun h=>by omega,fun h=>by omega,fun h=>by omega,by decide⟩ (fun h=>by omega) (no_kids (x:=missN))
theorem sign_rng {x:List UInt8} {lvl:Nat} (h:x∈levelsL.getD lvl []):0<=idxP signL x/\idxP signL x<=11:=by
 have:∀ y∈levelsL.flatten,0<=idxP signL y/\idxP signL y<=11:=by decide
 refine this x (List.mem_flatten.2 ?_)
 rw [List.getD_eq_getElem?_getD] at h
 cases hl:levelsL[lvl]? with
 | none=>rw [hl] at h;simp at h
 | some l=>rw [hl] at h;exact ⟨l,List.mem_of_getElem? hl,h⟩
theorem fault_rng {x:List UInt8} (h:x∈errTexts):0<=idxP errL x/\idxP errL x<=6:=by
 have:∀ y∈errTexts,0<=idxP errL y/\idxP errL y<=6:=by decide
 exact this x h
theorem sizes_snoc (l:List Nd) (x:Nd):Nd.sizes (l ++ [x])=Nd.sizes l+x.size:=by
 induction l with
 | nil=>simp [Nd.sizes]
 | cons y l ih=>rw [List.cons_append,Nd.sizes,ih,Nd.sizes];omega
section
variable {T:List Tok}
theorem Went.e0 {s s':PSt} (h:Went T s s') (h0:s'.err=0):s.err=0:=by
 by_cases he:s.err=0
 ·exact he
 ·have:=(h.err he).1;omega
theorem enter_i {s:PSt} (h:(stepP1 (enterP T s)).err=0):(stepP1 (enterP T s)).i=s.i+1:=by
 have hi:(enterP T s).i=s.i:=by
  unfold enterP failP
  split
  ·split<;>rfl
  ·rfl
 unfold stepP1 at h ⊢
 split
 ·show (enterP T s).i+1=_
  omega
 ·rename_i hne
  rw [if_neg hne] at h
  exact absurd h hne
theorem must_i {s:PSt} {x:List UInt8} (h:(mustP T s x).err=0):s.err=0/\(mustP T s x).i=s.i+1:=by
 unfold mustP at h ⊢
 split
 ·rename_i hx
  rw [if_pos hx] at h
  exact ⟨h,rfl⟩
 ·rename_i hx
  rw [if_neg hx] at h
  unfold failP at h
  split at h
  ·cases h
  ·rename_i hne;exact absurd h hne
theorem fail_err {s:PSt} {e:Int} (he:e≠0) (h:(failP T s e).err=0):False:=by
 unfold failP at h
 split at h
 ·exact he h
 ·rename_i hne;exact hne h
structure GoodF (T:List Tok) (f:Nat):Prop where
 betw:∀ lvl s r,betwP T f lvl s=some r->Fit T s->r.2.err=0->r.1.gd/\r.1.size+2*s.i<=2*r.2.i
 loop:∀ lvl n s r,loopP T f lvl n s=some r->Fit T s->r.2.err=0->n.gd->r.1.gd/\r.1.size+2*s.i<=n.size+2*r.2.i
 signed:∀ s r,signedP T f s=some r->Fit T s->r.2.err=0->r.1.gd/\r.1.size+2*s.i<=2*r.2.i
 hundred:∀ s r,hundredP T f s=some r->Fit T s->r.2.err=0->r.1.gd/\r.1.size+2*s.i<=2*r.2.i
 hloop:∀ n s r,hloopP T f n s=some r->Fit T s->r.2.err=0->n.gd->r.1.gd/\r.1.size+2*s.i<=n.size+2*r.2.i
 prim:∀ s r,primP T f s=some r->Fit T s->r.2.err=0->r.1.gd/\r.1.size+2*s.i<=2*r.2.i
 name:∀ s r,nameP T f s=some r->Fit T s->(curT T s).kind=3->r.2.err=0->r.1.gd/\r.1.size+2*s.i<=2*r.2.i
 args:∀ s r,argsP T f s=some r->Fit T s->r.2.err=0->(∀ x∈r.1,x.gd)/\Nd.sizes r.1+2*s.i<=2*r.2.i
 aloop:∀ l s r,aloopP T f l s=some r->Fit T s->r.2.err=0->(∀ x∈l,x.gd)->(∀ x∈r.1,x.gd)/\Nd.sizes r.1+2*s.i<=Nd.sizes l+2*r.2.i
theorem leaf_gd {op n:Int} {s:List UInt8} {a b:Ref} (h:nodeOk op n s a b 0):(Nd.mk op n s a b []).gd:=gd_mk h (fun _=>rfl) (no_kids (x:=missN))
theorem leaf_size (op n:Int) (s:List UInt8) (a b:Ref):(Nd.mk op n s a b []).size=1:=by rw [Nd.size,Nd.sizes]
theorem one_size (op n:Int) (s:List UInt8) (a b:Ref) (x:Nd):(Nd.mk op n s a b [x]).size=1+x.size:=by rw [Nd.size,Nd.sizes,Nd.sizes];omega
theorem two_size (op n:Int) (s:List UInt8) (a b:Ref) (x y:Nd):(Nd.mk op n s a b [x,y]).size=1+x.size+y.size:=by rw [Nd.size,Nd.sizes,Nd.sizes,Nd.sizes];omega
theorem one_gd {op n:Int} {s:List UInt8} {a b:Ref} {x:Nd} (h:nodeOk op n s a b 1) (h5:op≠5/\op≠6) (hx:x.gd):(Nd.mk op n s a b [x]).gd:=
 gd_mk h (fun h=>by omega) fun y hy=>by simp at hy;subst hy;exact hx
theorem one_ok {op:Int} (h:op=7\/op=8\/op=9):nodeOk op 0 [] .zero .zero 1:=
 ⟨by omega,fun h=>by omega,fun h=>by omega,fun h=>by omega,fun h=>by omega,fun h=>by omega,fun h=>by omega,fun h=>by omega,fun h=>by omega,by decide⟩
theorem goodF (hT:Ends T) (hG:∀ i,(T.getD i endT).kind≠0->TokGd (T.getD i endT)) (hL:T.length<=100000):∀ f,GoodF T f
 | 0=>by
   constructor
   all_goals intros
   all_goals first
    | (rename_i h _ _;simp only [betwP,signedP,hundredP,primP,argsP,reduceCtorEq] at h)
    | (rename_i h _ _ _;simp only [loopP,hloopP,nameP,aloopP,reduceCtorEq] at h)
 | f+1=>by
   have ih:=goodF hT hG hL f
   have W:=wentF hT f
   constructor
   ·intro lvl s r h hf h0
    rw [betwP] at h
    split at h
    ·exact ih.signed s r h hf h0
    ·split at h
     ·cases h
     ·rename_i r1 h1
      have w1:=W.betw _ _ _ h1 hf
      have w2:=W.loop _ _ _ _ h w1.fit
      obtain ⟨g1,g2⟩:=ih.betw _ _ _ h1 hf (w2.e0 h0)
      obtain ⟨g3,g4⟩:=ih.loop _ _ _ _ h w1.fit h0 g1
      exact ⟨g3,by omega⟩
   ·intro lvl n s r h hf h0 hn
    rw [loopP] at h
    split at h
    ·rename_i hk
     split at h
     ·cases h
     ·rename_i r1 h1
      have w0:=Went.next hT hf (sgn_kind hk)
      have w1:=W.betw _ _ _ h1 w0.fit
      have w2:=W.loop _ _ _ _ h w1.fit
      obtain ⟨g1,g2⟩:=ih.betw _ _ _ h1 w0.fit (w2.e0 h0)
      have hs:(curT T s).text∈levelsL.getD lvl []:=by
       unfold sgn at hk
       simp only [Bool.and_eq_true,decide_eq_true_eq] at hk
       exact hk.2
      have hr:=sign_rng hs
      have hg:(Nd.mk (10+idxP signL (curT T s).text) 0 [] .zero .zero [n,r1.1]).gd:=by
       refine gd_mk ⟨by omega,fun h=>by omega,fun h=>by omega,fun h=>by omega,fun h=>by omega,fun h=>by omega,fun h=>by omega,fun h=>by omega,fun h=>by simp,by simp⟩ (fun h=>by omega) fun y hy=>?_
       simp only [List.mem_cons,List.not_mem_nil,or_false] at hy
       rcases hy with rfl|rfl
       ·exact hn
       ·exact g1
      obtain ⟨g3,g4⟩:=ih.loop _ _ _ _ h w1.fit h0 hg
      rw [two_size] at g4
      have:s.next.i=s.i+1:=rfl
      exact ⟨g3,by omega⟩
    ·injection h with h;subst h;exact ⟨hn,by dsimp only;omega⟩
   ·intro s r h hf h0
    rw [signedP] at h
    split at h
    ·rename_i hk
     split at h
     ·cases h
     ·rename_i r1 h1
      injection h with h;subst h
      obtain ⟨e1,e2,e3⟩:=enter_fit hT hf (isOp_kind hk)
      have w1:=W.signed _ _ h1 e1
      have e4:=enter_i (w1.e0 h0)
      obtain ⟨g1,g2⟩:=ih.signed _ _ h1 e1 h0
      dsimp only
      rw [one_size]
      exact ⟨one_gd (one_ok (by omega)) (by omega) g1,by show _<=2*r1.2.i;omega⟩
    split at h
    ·rename_i hk
     split at h
     ·cases h
     ·rename_i r1 h1
      injection h with h;subst h
      obtain ⟨e1,e2,e3⟩:=enter_fit hT hf (isOp_kind hk)
      have w1:=W.signed _ _ h1 e1
      have e4:=enter_i (w1.e0 h0)
      obtain ⟨g1,g2⟩:=ih.signed _ _ h1 e1 h0
      dsimp only
      rw [one_size]
      exact ⟨one_gd (one_ok (by omega)) (by omega) g1,by show _<=2*r1.2.i;omega⟩
    ·exact ih.hundred _ _ h hf h0
   ·intro s r h hf h0
    rw [hundredP] at h
    split at h
    ·cases h
    ·rename_i r1 h1
     have w1:=W.prim _ _ h1 hf
     have w2:=W.hloop _ _ _ h w1.fit
     obtain ⟨g1,g2⟩:=ih.prim _ _ h1 hf (w2.e0 h0)
     obtain ⟨g3,g4⟩:=ih.hloop _ _ _ h w1.fit h0 g1
     exact ⟨g3,by omega⟩
   ·intro n s r h hf h0 hn
    rw [hloopP] at h
    split at h
    ·rename_i hk
     have w0:=Went.next hT hf (isOp_kind hk)
     obtain ⟨g3,g4⟩:=ih.hloop _ _ _ h w0.fit h0 (one_gd (one_ok (by omega)) (by omega) hn)
     rw [one_size] at g4
     have:s.next.i=s.i+1:=rfl
     exact ⟨g3,by omega⟩
    ·injection h with h;subst h;exact ⟨hn,by dsimp only;omega⟩
   ·intro s r h hf h0
    have hni:s.next.i=s.i+1:=rfl
    have hgd:(curT T s).kind≠0->TokGd (curT T s):=fun hk=>by
     have he:=cur_err hk
     rw [cur_at he] at hk ⊢
     exact hG _ hk
    rw [primP] at h
    split at h
    ·rename_i hk
     split at h
     ·injection h with h;subst h;exact absurd h0 fun h=>fail_err (by decide) h
     ·rename_i v hv
      injection h with h;subst h
      refine ⟨leaf_gd ⟨by decide,fun _=>parseD_rng hv,fun h=>by omega,fun h=>by omega,fun h=>by omega,fun h=>by omega,fun h=>by omega,fun h=>by omega,fun h=>by omega,by decide⟩,?_⟩
      rw [leaf_size];dsimp only;omega
    split at h
    ·rename_i hk
     injection h with h;subst h
     have:=(hgd (by omega)).len
     refine ⟨leaf_gd ⟨by decide,fun h=>by omega,fun _=>by omega,fun h=>by omega,fun h=>by omega,fun h=>by omega,fun h=>by omega,fun h=>by omega,fun h=>by omega,by decide⟩,?_⟩
     rw [leaf_size];dsimp only;omega
    split at h
    ·rename_i hk
     injection h with h;subst h
     have hr:=fault_rng ((hgd (by omega)).err hk)
     have hq:((idxP errL (curT T s).text+1)*10000).tdiv 10000=idxP errL (curT T s).text+1:=Int.mul_tdiv_cancel _ (by decide)
     refine ⟨leaf_gd ⟨by decide,fun h=>by omega,fun h=>by omega,fun h=>by rw [hq];omega,fun h=>by omega,fun h=>by omega,fun h=>by omega,fun h=>by omega,fun h=>by omega,by decide⟩,?_⟩
     rw [leaf_size];dsimp only;omega
    split at h
    ·rename_i hk
     injection h with h;subst h
     unfold areaP at h0 ⊢
     split at h0
     ·rename_i ho
      rw [if_pos ho]
      refine ⟨leaf_gd ⟨by decide,fun h=>by omega,fun h=>by omega,fun h=>by omega,fun h=>by omega,fun _=>parseP_good _,fun h=>by omega,fun h=>by omega,fun h=>by omega,by decide⟩,?_⟩
      rw [leaf_size];dsimp only;omega
     ·rename_i ho
      rw [if_neg ho]
      split at h0
      ·exact absurd h0 fun h=>fail_err (by decide) h
      ·rename_i hk2
       rw [if_neg hk2]
       refine ⟨leaf_gd ⟨by decide,fun h=>by omega,fun h=>by omega,fun h=>by omega,fun h=>by omega,fun _=>parseP_good _,fun _=>parseP_good _,fun h=>by omega,fun h=>by omega,by decide⟩,?_⟩
       rw [leaf_size]
       have:s.next.next.next.i=s.i+3:=rfl
       dsimp only;omega
    split at h
    ·rename_i hk
     exact ih.name _ _ h hf hk h0
    split at h
    ·rename_i hk
     split at h
     ·cases h
     ·rename_i r1 h1
      injection h with h;subst h
      obtain ⟨e1,e2,e3⟩:=enter_fit hT hf (isOp_kind hk)
      have w1:=W.betw _ _ _ h1 e1
      obtain ⟨m1,m2⟩:=must_i (T:=T) (s:=r1.2) (x := [41]) h0
      have e4:=enter_i (w1.e0 m1)
      obtain ⟨g1,g2⟩:=ih.betw _ _ _ h1 e1 m1
      exact ⟨g1,by show _<=2*(mustP T r1.2 [41]).i;dsimp only;omega⟩
    ·injection h with h;subst h;exact absurd h0 fun h=>fail_err (by decide) h
   ·intro s r h hf hk3 h0
    have hni:s.next.i=s.i+1:=rfl
    have he0:s.err=0:=cur_err (T:=T) (by omega)
    have hn:=hf.next hT (by omega)
    have hgd:TokGd (curT T s):=by
     have hk:(curT T s).kind≠0:=by omega
     rw [cur_at he0] at hk ⊢
     exact hG _ hk
    rw [nameP] at h
    split at h
    ·rename_i hk
     obtain ⟨e1,e2,e3⟩:=enter_err hT hf he0
     split at h
     ·rename_i he
      injection h with h;subst h
      exact absurd h0 he
     ·rename_i he
      split at h
      ·cases h
      ·rename_i r1 h1
       injection h with h;subst h
       obtain ⟨g1,g2,g3,_⟩:=enter2 hT hf (by omega) (by simpa using he)
       have hl:=hT.more (s.i+1) hn.1.i (by omega)
       have g4:Fit T (enterP T s).next.next:=⟨by show (enterP T s).i+1+1<_;omega,g1.d0,g1.d1,g1.d2⟩
       have w1:=W.args _ _ h1 g4
       obtain ⟨k1,k2⟩:=ih.args _ _ h1 g4 h0
       have hi2:(enterP T s).next.next.i=(enterP T s).i+2:=rfl
       have hsl:=sizes_len r1.1
       have hlt:=w1.fit.i
       refine ⟨gd_mk ⟨by decide,fun h=>by omega,fun h=>by omega,fun h=>by omega,fun _=>hgd.nam hk3,fun h=>by omega,fun h=>by omega,fun h=>by omega,fun h=>by omega,by omega⟩ (fun h=>by omega) k1,?_⟩
       dsimp only
       rw [Nd.size]
       show _<=2*r1.2.i
       omega
    split at h
    ·injection h with h;subst h
     refine ⟨leaf_gd ⟨by decide,fun h=>by omega,fun h=>by omega,fun h=>by omega,fun h=>by omega,fun h=>by omega,fun h=>by omega,fun h=>by omega,fun h=>by omega,by decide⟩,?_⟩
     rw [leaf_size];dsimp only;omega
    split at h
    ·injection h with h;subst h
     refine ⟨leaf_gd ⟨by decide,fun h=>by omega,fun h=>by omega,fun h=>by omega,fun h=>by omega,fun h=>by omega,fun h=>by omega,fun h=>by omega,fun h=>by omega,by decide⟩,?_⟩
     rw [leaf_size];dsimp only;omega
    ·injection h with h;subst h;exact absurd h0 fun h=>fail_err (by decide) h
   ·intro s r h hf h0
    rw [argsP] at h
    split at h
    ·rename_i hk
     injection h with h;subst h
     refine ⟨no_kids (x:=missN),?_⟩
     have:s.next.i=s.i+1:=rfl
     rw [Nd.sizes];dsimp only;omega
    ·obtain ⟨g1,g2⟩:=ih.aloop _ _ _ h hf h0 (no_kids (x:=missN))
     rw [Nd.sizes] at g2
     exact ⟨g1,by omega⟩
   ·intro l s r h hf h0 hl
    rw [aloopP] at h
    split at h
    ·rename_i he
     injection h with h;subst h;exact absurd h0 he
    ·rename_i he
     split at h
     ·cases h
     ·rename_i r1 h1
      have w1:Went T s r1.2:=by
       split at h1
       ·injection h1 with h1;subst h1;exact Went.refl hf
       ·exact W.betw _ _ _ h1 hf
      have key:r1.2.err=0->r1.1.gd/\r1.1.size+2*s.i<=1+2*r1.2.i:=fun k0=>by
       split at h1
       ·injection h1 with h1;subst h1
        refine ⟨miss_gd,?_⟩
        show missN.size+_<=_
        unfold missN
        rw [leaf_size]
        dsimp only
        omega
       ·obtain ⟨k1,k2⟩:=ih.betw _ _ _ h1 hf k0
        exact ⟨k1,by omega⟩
      have hsnoc:=sizes_snoc l r1.1
      have hmem:r1.1.gd->∀ x∈l ++ [r1.1],x.gd:=fun k x hx=>by
       rcases List.mem_append.1 hx with hx|hx
       ·exact hl x hx
       ·simp at hx;subst hx;exact k
      split at h
      ·rename_i hk
       have w2:=Went.next hT w1.fit (isOp_kind hk)
       have w3:=W.aloop _ _ _ h w2.fit
       obtain ⟨k1,k2⟩:=key (w2.e0 (w3.e0 h0))
       obtain ⟨g1,g2⟩:=ih.aloop _ _ _ h w2.fit h0 (hmem k1)
       have:r1.2.next.i=r1.2.i+1:=rfl
       exact ⟨g1,by omega⟩
      ·injection h with h;subst h
       obtain ⟨m1,m2⟩:=must_i (T:=T) (s:=r1.2) (x := [41]) h0
       obtain ⟨k1,k2⟩:=key m1
       exact ⟨hmem k1,by dsimp only;omega⟩
end
theorem parseR_gd {s:List UInt8} (h:(parseR s).2.2=0):(parseR s).1.gd/\(parseR s).1.size<=5000:=by
 unfold parseR parseT at h ⊢
 by_cases h1:(lexP s).2.2=0
 ·obtain ⟨hT,hL,hG⟩:=lex_toks h1
  obtain ⟨r,hr⟩:=betw_some h1
  have hr':=hr
  unfold st0 at hr
  rw [if_neg (by simp [h1]),hr] at h ⊢
  dsimp only at h ⊢
  have W:=(wentF hT.ends _).betw _ _ _ hr' (st0_fit hT.ends)
  obtain ⟨q,hq⟩:∃ q,(if (curT (lexP s).1 r.2).kind≠0 then failP (lexP s).1 r.2 10 else r.2)=q:=⟨_,rfl⟩
  rw [hq] at h ⊢
  by_cases he:q.err≠0
  ·rw [if_pos he] at h
   exact absurd h he
  ·rw [if_neg he]
   have h0:r.2.err=0:=by
    split at hq
    ·subst hq
     exact absurd (by simpa using he) fun h=>fail_err (T:=(lexP s).1) (s:=r.2) (e:=10) (by decide) h
    ·subst hq
     simpa using he
   obtain ⟨g1,g2⟩:=(goodF hT.ends hG (by omega) _).betw _ _ _ hr' (st0_fit hT.ends) h0
   have:=W.fit.i
   refine ⟨g1,?_⟩
   show r.1.size<=_
   omega
 ·rw [if_pos (by simpa using h1)] at h
  exact absurd h h1
end Go.A
namespace Go.A
open Go.Proofs Go.Lib
theorem decode_whole {r:List UInt8} {c w:Nat} (hr:r ≠ []) (hd:decodeL r=(c,w)) (hv:(c,w)≠(65533,1)) (t:List UInt8):decodeL (r.take w++t)=(c,w):=by
 have hpos:=List.length_pos_iff.2 hr
 rw [decodeL_N] at hd ⊢
 have k0:=(r.getD 0 0).toNat_lt
 have k1:=(r.getD 1 0).toNat_lt
 rcases decodeN_shape r.length (r.getD 0 0).toNat (r.getD 1 0).toNat (r.getD 2 0).toNat (r.getD 3 0).toNat with ⟨c1,e⟩|⟨c1,c2,c3,cv,e⟩|⟨c1,c2,c3,c4,cv,cs,e⟩|⟨c1,c2,c3,c4,c5,cv,cw,e⟩|e
 ·rw [e] at hd
  injection hd with h1 h2
  subst h1 h2
  rw [takeA r hpos]
  generalize r.getD 0 0=b0 at *
  have e0:(([b0]++t).getD 0 0)=b0:=rfl
  rw [e0]
  unfold decodeN
  rw [if_pos c1]
 ·rw [e] at hd
  injection hd with h1 h2
  subst h1 h2
  rw [takeB r c2]
  generalize r.getD 0 0=b0 at *
  generalize r.getD 1 0=b1 at *
  have e0:(([b0,b1]++t).getD 0 0)=b0:=rfl
  have e1:(([b0,b1]++t).getD 1 0)=b1:=rfl
  have el:1<([b0,b1]++t).length:=by simp
  rw [e0,e1]
  unfold decodeN
  rw [if_neg (by omega),if_pos ⟨c1,el,c3⟩,if_pos (by omega)]
 ·rw [e] at hd
  injection hd with h1 h2
  subst h1 h2
  rw [takeC r c2]
  generalize r.getD 0 0=b0 at *
  generalize r.getD 1 0=b1 at *
  generalize r.getD 2 0=b2 at *
  have e0:(([b0,b1,b2]++t).getD 0 0)=b0:=rfl
  have e1:(([b0,b1,b2]++t).getD 1 0)=b1:=rfl
  have e2:(([b0,b1,b2]++t).getD 2 0)=b2:=rfl
  have el:2<([b0,b1,b2]++t).length:=by simp
  rw [e0,e1,e2]
  unfold decodeN
  rw [if_neg (by omega),if_neg (by omega),if_pos ⟨c1,⟨by omega,c3⟩,el,c4⟩,if_pos (by omega)]
 ·rw [e] at hd
  injection hd with h1 h2
  subst h1 h2
  rw [takeD r c2]
  generalize r.getD 0 0=b0 at *
  generalize r.getD 1 0=b1 at *
  generalize r.getD 2 0=b2 at *
  generalize r.getD 3 0=b3 at *
  have e0:(([b0,b1,b2,b3]++t).getD 0 0)=b0:=rfl
  have e1:(([b0,b1,b2,b3]++t).getD 1 0)=b1:=rfl
  have e2:(([b0,b1,b2,b3]++t).getD 2 0)=b2:=rfl
  have e3:(([b0,b1,b2,b3]++t).getD 3 0)=b3:=rfl
  have el:3<([b0,b1,b2,b3]++t).length:=by simp
  rw [e0,e1,e2,e3]
  unfold decodeN
  rw [if_neg (by omega),if_neg (by omega),if_neg (by omega),if_pos ⟨c1,⟨by omega,c3⟩,⟨by omega,c4⟩,el,c5⟩,if_pos (by omega)]
 ·rw [e] at hd
  exact absurd hd.symm hv
end Go.A
namespace Go.A
open Go.Proofs Go.Lib
def Tok.sh (a c:Nat) (t:Tok):Tok:=⟨t.kind,t.text,t.at'+a,t.col+c⟩
abbrev Rel:=Nat ⊕ (List Tok×Nat)
def Rel.sh (a c:Nat):Rel->Rel
 | .inl j => .inl (a+j)
 | .inr (ts,m) => .inr (ts.map (Tok.sh a c),c+m)
def rel:Nat->List UInt8->Rel
 | 0,_ => .inl 0
 | k+1,r=>
   if r = [] then .inr ([],0)
   else match stepP r with
    | .bad j => .inl j
    | .blank=>(rel k (r.drop 1)).sh 1 1
    | .tok kind t n=>match (rel k (r.drop n)).sh n (signsN (r.take n)) with
      | .inl j => .inl j
      | .inr (ts,m) => .inr (⟨kind,t,0,0⟩::ts,m)
theorem rel_fuel:∀ (k k':Nat) (r:List UInt8),r.length<k->r.length<k'->rel k r=rel k' r
 | 0,_,r,h,_=>by omega
 | _+1,0,r,_,h=>by omega
 | k+1,k'+1,r,h,h'=>by
   unfold rel
   by_cases hr:r = []
   ·rw [if_pos hr,if_pos hr]
   rw [if_neg hr,if_neg hr]
   have hpos:=List.length_pos_iff.2 hr
   have hf:=(stepP_fits r hr).2
   cases hs:stepP r with
   | bad j=>rfl
   | blank=>dsimp only;rw [rel_fuel k k' (r.drop 1) (by rw [List.length_drop];omega) (by rw [List.length_drop];omega)]
   | tok kd t n=>
     obtain ⟨h1,h2⟩:=hf kd t n hs
     dsimp only
     rw [rel_fuel k k' (r.drop n) (by rw [List.length_drop];omega) (by rw [List.length_drop];omega)]
def relP (r:List UInt8):Rel:=rel (r.length+1) r
theorem relP_nil:relP [] = .inr ([],0):=rfl
theorem relP_step {r:List UInt8} (hr:r ≠ []):relP r=match stepP r with
   | .bad j => .inl j
   | .blank=>(relP (r.drop 1)).sh 1 1
   | .tok kind t n=>match (relP (r.drop n)).sh n (signsN (r.take n)) with
     | .inl j => .inl j
     | .inr (ts,m) => .inr (⟨kind,t,0,0⟩::ts,m):=by
 have hpos:=List.length_pos_iff.2 hr
 have hf:=(stepP_fits r hr).2
 conv=>lhs;unfold relP rel
 rw [if_neg hr]
 cases hs:stepP r with
 | bad j=>rfl
 | blank=>dsimp only;unfold relP;rw [rel_fuel _ ((r.drop 1).length+1) (r.drop 1) (by rw [List.length_drop];omega) (by omega)]
 | tok kd t n=>
   obtain ⟨h1,h2⟩:=hf kd t n hs
   dsimp only
   unfold relP
   rw [rel_fuel _ ((r.drop n).length+1) (r.drop n) (by rw [List.length_drop];omega) (by omega)]
def endOf (a c:Nat) (acc:List Tok) (L:Nat):Rel->List Tok×Nat×Int
 | .inl j=>([],a+j,10)
 | .inr (ts,m)=>(acc++ts.map (Tok.sh a c) ++ [⟨0,[],a+L,c+m⟩],0,0)
theorem lexF_rel:∀ (k:Nat) (r:List UInt8) (a c:Nat) (acc:List Tok),r.length<k->lexF k r a c acc=endOf a c acc r.length (relP r)
 | 0,r,a,c,acc,h=>by omega
 | k+1,r,a,c,acc,h=>by
   unfold lexF
   by_cases hr:r = []
   ·subst hr
    rw [if_pos rfl,relP_nil]
    simp [endOf]
   rw [if_neg hr,relP_step hr]
   have hpos:=List.length_pos_iff.2 hr
   have hf:=(stepP_fits r hr).2
   cases hs:stepP r with
   | bad j=>rfl
   | blank=>
     dsimp only
     rw [lexF_rel k (r.drop 1) _ _ _ (by rw [List.length_drop];omega),List.length_drop]
     cases relP (r.drop 1) with
     | inl j=>simp only [Rel.sh,endOf];rw [Nat.add_assoc]
     | inr x=>
       obtain ⟨ts,m⟩:=x
       simp only [Rel.sh,endOf,List.map_map]
       rw [show a+1+(r.length-1)=a+r.length by omega,Nat.add_assoc c 1 m]
       congr 4
       funext t
       simp [Tok.sh,Nat.add_comm,Nat.add_left_comm,Function.comp]
   | tok kd t n=>
     obtain ⟨h1,h2⟩:=hf kd t n hs
     dsimp only
     rw [lexF_rel k (r.drop n) _ _ _ (by rw [List.length_drop];omega),List.length_drop]
     cases relP (r.drop n) with
     | inl j=>simp only [Rel.sh,endOf];rw [Nat.add_assoc]
     | inr x=>
       obtain ⟨ts,m⟩:=x
       simp only [Rel.sh,endOf,List.map_map,List.map_cons,List.append_assoc,List.cons_append,List.nil_append]
       rw [show a+n+(r.length-n)=a+r.length by omega,Nat.add_assoc c _ m]
       have e:Tok.sh (a+n) (c+signsN (r.take n))=Tok.sh a c ∘ Tok.sh n (signsN (r.take n)):=by
        funext t
        simp [Tok.sh,Nat.add_comm,Nat.add_left_comm,Function.comp]
       have e0:Tok.sh a c ⟨kd,t,0,0⟩=⟨kd,t,a,c⟩:=by simp [Tok.sh]
       rw [e,e0]
theorem lexP_rel {s:List UInt8} (h:s.length<=2000):lexP s=endOf 0 0 [] s.length (relP s):=by
 unfold lexP
 rw [if_neg (by omega),lexF_rel _ _ _ _ _ (by omega)]
end Go.A
namespace Go.A
open Go.Proofs Go.Lib
theorem sgF_fuel:∀ (k k':Nat) (r:List UInt8),r.length<k->r.length<k'->sgF k r=sgF k' r
 | 0,_,r,h,_=>by omega
 | _+1,0,r,_,h=>by omega
 | k+1,k'+1,r,h,h'=>by
   unfold sgF
   by_cases hr:r = []
   ·rw [if_pos hr,if_pos hr]
   have hpos:=List.length_pos_iff.2 hr
   have hw:=decodeL_width r
   rw [if_neg hr,if_neg hr,sgF_fuel k k' _ (by rw [List.length_drop];omega) (by rw [List.length_drop];omega)]
def sgP (r:List UInt8):Option Nat:=sgF (r.length+1) r
theorem sgP_nil:sgP []=some 0:=rfl
theorem sgP_step {r:List UInt8} (hr:r ≠ []):sgP r=if decodeL r=(65533,1) then none else (sgP (r.drop (decodeL r).2)).map (· + 1):=by
 have hpos:=List.length_pos_iff.2 hr
 have hw:=decodeL_width r
 conv=>lhs;unfold sgP sgF
 unfold sgP
 rw [if_neg hr,sgF_fuel r.length ((r.drop (decodeL r).2).length+1) _ (by rw [List.length_drop];omega) (by omega)]
def cnt:Nat->List UInt8->Nat
 | 0,_=>0
 | k+1,r=>if r = [] then 0 else 1+cnt k (r.drop (decodeL r).2)
theorem runeCount_cnt (l:List UInt8):∀ (k pos:Nat),runeCountFrom ⟨⟨l⟩⟩ k pos=cnt k (l.drop pos)
 | 0,_=>rfl
 | k+1,pos=>by
   unfold runeCountFrom cnt
   have e:(⟨⟨l⟩⟩:ByteArray).size=l.length:=rfl
   rw [e]
   by_cases h:pos<l.length
   ·have hne:l.drop pos ≠ []:=by
     intro h2
     have:=congrArg List.length h2
     simp at this
     omega
    have hd:=decodeL_drop ⟨⟨l⟩⟩ pos
    have hd:decodeL (l.drop pos)=Utf8.decode ⟨⟨l⟩⟩ pos:=hd
    rw [if_pos h,if_neg hne,runeCount_cnt l k,hd,List.drop_drop]
   ·rw [if_neg h,if_pos (List.drop_eq_nil_of_le (by omega))]
theorem cnt_fuel:∀ (k k':Nat) (r:List UInt8),r.length<=k->r.length<=k'->cnt k r=cnt k' r
 | 0,k',r,h,_=>by
   have:r = []:=List.eq_nil_of_length_eq_zero (by omega)
   subst this
   cases k'<;>simp [cnt]
 | k+1,0,r,_,h=>by
   have:r = []:=List.eq_nil_of_length_eq_zero (by omega)
   subst this
   simp [cnt]
 | k+1,k'+1,r,h,h'=>by
   unfold cnt
   by_cases hr:r = []
   ·rw [if_pos hr,if_pos hr]
   have hpos:=List.length_pos_iff.2 hr
   have hw:=decodeL_width r
   rw [if_neg hr,if_neg hr,cnt_fuel k k' _ (by rw [List.length_drop];omega) (by rw [List.length_drop];omega)]
theorem signsN_step {r:List UInt8} (hr:r ≠ []):signsN r=1+signsN (r.drop (decodeL r).2):=by
 have hpos:=List.length_pos_iff.2 hr
 have hw:=decodeL_width r
 unfold signsN runeCount
 rw [runeCount_cnt,runeCount_cnt,List.drop_zero,List.drop_zero]
 have e1:(⟨⟨r⟩⟩:ByteArray).size=r.length:=rfl
 have e2:(⟨⟨r.drop (decodeL r).2⟩⟩:ByteArray).size=(r.drop (decodeL r).2).length:=rfl
 rw [e1,e2]
 obtain ⟨k,hk⟩:∃ k,r.length=k+1:=⟨r.length-1,by omega⟩
 rw [hk,cnt,if_neg hr]
 rw [cnt_fuel k _ _ (by rw [List.length_drop];omega) (Nat.le_refl _)]
inductive Sg:List UInt8->Nat->Prop
 | nil:Sg [] 0
 | cons {y z:List UInt8} {c n:Nat}:y ≠ []->(∀ t,decodeL (y++t)=(c,y.length))->(c,y.length)≠(65533,1)->Sg z n->Sg (y++z) (n+1)
theorem Sg.app {x:List UInt8} {n:Nat} (h:Sg x n) (t:List UInt8):sgP (x++t)=(sgP t).map (· + n)/\signsN (x++t)=n+signsN t:=by
 induction h with
 | nil=>simp
 | cons h1 h2 h3 _ ih=>
   rename_i y z c n _
   obtain ⟨i1,i2⟩:=ih
   have hne:(y++z)++t ≠ []:=by simp [h1]
   have hd:decodeL ((y++z)++t)=(c,y.length):=by rw [List.append_assoc];exact h2 _
   have hdr:((y++z)++t).drop y.length=z++t:=by rw [List.append_assoc,List.drop_left]
   rw [sgP_step hne,hd,if_neg h3,hdr,i1,signsN_step hne,hd,hdr,i2]
   refine ⟨?_,by omega⟩
   cases sgP t<;>simp [Nat.add_assoc]
theorem Sg.join {x z:List UInt8} {n m:Nat} (h:Sg x n) (k:Sg z m):Sg (x++z) (n+m):=by
 induction h with
 | nil=>simpa using k
 | cons h1 h2 h3 _ ih=>
   rw [List.append_assoc,Nat.add_right_comm]
   exact .cons h1 h2 h3 ih
theorem Sg.ascii:∀ x:List UInt8,(∀ c∈x,c.toNat<128)->Sg x x.length
 | [],_ => .nil
 | c::x,h=>by
   have hc:=h c (by simp)
   exact .cons (y := [c]) (by simp) (fun t=>dec_one c t hc) (by rw [ne_eq,Prod.mk.injEq];omega) (Sg.ascii x fun d hd=>h d (by simp [hd]))
theorem Sg.one {r:List UInt8} (hr:r ≠ []) (hv:decodeL r≠(65533,1)):Sg (r.take (decodeL r).2) 1:=by
 have hle:=decodeL_le r hr
 have hw:=decodeL_width r
 have hl:(r.take (decodeL r).2).length=(decodeL r).2:=List.length_take_of_le hle
 have:=Sg.cons (y:=r.take (decodeL r).2) (z := []) (c:=(decodeL r).1) (n:=0) (by
  intro h
  rw [h] at hl
  simp at hl
  omega) (fun t=>by rw [hl];exact decode_whole hr rfl hv t) (by rw [hl];exact hv) .nil
 simpa using this
theorem runL_all2 (p:UInt8->Bool):∀ l:List UInt8,∀ c∈l.take (runL p l),p c=true
 | [],c,h=>by simp [runL] at h
 | x::l,c,h=>by
   unfold runL at h
   split at h
   ·rename_i hx
    rw [List.take_succ_cons,List.mem_cons] at h
    rcases h with rfl|h
    ·exact hx
    ·exact runL_all2 p l c h
   ·simp at h
end Go.A
namespace Go.A
open Go.Proofs Go.Lib
abbrev KT:=Int×List UInt8
def kt (t:Tok):KT:=(t.kind,t.text)
def kts:Rel->Option (List KT)
 | .inl _=>none
 | .inr (ts,_)=>some (ts.map kt)
theorem kts_step {x y:List UInt8} (hx:x ≠ []) {k:Int} {t:List UInt8} (h:stepP (x++y) = .tok k t x.length):kts (relP (x++y))=(kts (relP y)).map ([(k,t)] ++ ·):=by
 rw [relP_step (by simp [hx]),h]
 dsimp only
 rw [List.drop_left]
 cases hr:relP y with
 | inl j=>rfl
 | inr v=>simp [Rel.sh,kts,Function.comp_def,Tok.sh,kt]
def Lx (P:List UInt8->Prop) (x:List UInt8) (ts:List KT):Prop:=∀ y,P y->kts (relP (x++y))=(kts (relP y)).map (ts ++ ·)
theorem Lx.one {P:List UInt8->Prop} {x:List UInt8} {k:Int} {t:List UInt8} (hx:x ≠ []) (h:∀ y,P y->stepP (x++y) = .tok k t x.length):Lx P x [(k,t)]:=fun y hy=>kts_step hx (h y hy)
def NoW (y:List UInt8):Prop:=∀ c t,y=c::t->wordB c=false
/-! Single steps. -/
/-! Words. -/
theorem word_lt (c:UInt8) (h:wordB c=true):c.toNat<128/\c.toNat≠32/\c.toNat≠9/\c.toNat≠10:=by
 unfold wordB at h
 simp only [decide_eq_true_eq] at h
 omega
theorem step_word {w y:List UInt8} (hw:w ≠ []) (ha:∀ c∈w,wordB c=true) (hy:NoW y):stepP (w++y)=if numB w then .tok 1 w w.length else if refB w then .tok 4 (greatP w) w.length else if nameB w then .tok 3 (greatP w) w.length else .bad 0:=by
 obtain ⟨c,v,rfl⟩:∃ c v,w=c::v:=by
  cases w with
  | nil=>exact absurd rfl hw
  | cons c v=>exact ⟨c,v,rfl⟩
 have hc:=ha c (by simp)
 obtain ⟨h1,h2,h3,h4⟩:=word_lt c hc
 have hd:decodeL (c::v++y)=(c.toNat,1):=dec_one c _ h1
 have hr:runL wordB (c::v++y)=(c::v).length:=runL_app (fun d hd=>by
  cases y with
  | nil=>cases hd
  | cons e t=>injection hd with hd;subst hd;exact hy e t rfl) ha
 have hu:UInt8.ofNat c.toNat=c:=by simp
 have ht:(c::v++y).take (c::v).length=c::v:=List.take_left
 unfold stepP wordsS
 rw [hd]
 dsimp only
 rw [if_neg (by intro e;injection e with e _;omega),if_neg (by omega),hu,if_pos ⟨h1,hc⟩,hr,ht]
structure NameOk (w:List UInt8):Prop where
 word:∀ c∈w,wordB c=true
 name:nameB w=true
 num:numB w=false
 ref:refB w=false
 great:greatP w=w
theorem lx_name {w:List UInt8} (h:NameOk w):Lx NoW w [(3,w)]:=Lx.one (nameB_ne h.name) fun y hy=>by rw [step_word (nameB_ne h.name) h.word hy,if_neg (by simp [h.num]),if_neg (by simp [h.ref]),if_pos h.name,h.great]
/-! Numbers. -/
/-! References. -/
/-! Errors. -/
/-! Texts between quotes. -/
end Go.A
namespace Go.A
open Go.Proofs Go.Lib
inductive Nf:Nd->Prop
 | num {n:Int}:0<=n->n<=999999999999999999->Nf (.mk 1 n [] .zero .zero [])
 | text {s:List UInt8}:sgP s≠none->s.length<=8100->Nf (.mk 2 0 s .zero .zero [])
 | truth {b:Int}:b=0\/b=1->Nf (.mk 3 b [] .zero .zero [])
 | fail {k:Nat}:k<7->Nf (.mk 4 (((k:Int)+1)*10000) [] .zero .zero [])
 | cell {r:Ref}:r.good=true->Nf (.mk 5 0 [] r .zero [])
 | area {r q:Ref}:r.good=true->q.good=true->Nf (.mk 6 0 [] r q [])
 | sign {op:Int} {x:Nd}:op=7\/op=8->Nf x->x.op≠23->Nf (.mk op 0 [] .zero .zero [x])
 | hund {x:Nd}:Nf x->x.op≠23->Nf (.mk 9 0 [] .zero .zero [x])
 | bin {i:Nat} {x y:Nd}:i<12->Nf x->x.op≠23->Nf y->y.op≠23->Nf (.mk (10+(i:Int)) 0 [] .zero .zero [x,y])
 | call {s:List UInt8} {ks:List Nd}:NameOk s->s.length<=8100->(∀ k∈ks,Nf k)->(∀ k,ks = [k]->k.op≠23)->Nf (.mk 22 0 s .zero .zero ks)
 | miss:Nf (.mk 23 0 [] .zero .zero [])
theorem flat_snd {α:Type} (c:α) (f:Nd->List α) (l:List Nd):(l.map fun x=>(x.op,f x)).flatMap (fun q=>c::q.2)=l.flatMap fun x=>c::f x:=by
 rw [List.flatMap_map]
def insD (least op:Int) (d:Nat):Nat:=if least<=levelP op then d else d+1
def nestK (op:Int) (ks:List (Int×Nat)):Nat:=
 if op=7\/op=8 then 1+insD 6 (ks.getD 0 (0,0)).1 (ks.getD 0 (0,0)).2
 else if op=9 then insD 7 (ks.getD 0 (0,0)).1 (ks.getD 0 (0,0)).2
 else if op=22 then 1+(ks.map (·.2)).foldr max 0
 else if 10<=op/\op<=21 then max (insD (levelP op) (ks.getD 0 (0,0)).1 (ks.getD 0 (0,0)).2) (insD (levelP op+1) (ks.getD 1 (0,0)).1 (ks.getD 1 (0,0)).2) else 0
mutual
def Nd.nest:Nd->Nat
 | .mk op _ _ _ _ kids=>nestK op (Nd.nests kids)
def Nd.nests:List Nd->List (Int×Nat)
 | [] => []
 | x::xs=>(x.op,x.nest)::Nd.nests xs
end
theorem Nd.nests_map:∀ l:List Nd,Nd.nests l=l.map fun x=>(x.op,x.nest)
 | []=>rfl
 | x::xs=>by rw [Nd.nests,Nd.nests_map xs];rfl
theorem lev_bin (i:Nat) (h:i<12):1<=levelP (10+(i:Int))/\levelP (10+(i:Int))<=5:=by
 unfold levelP
 rw [if_neg (by omega),if_neg (by omega),if_neg (by omega)]
 repeat' split
 all_goals decide
theorem spell_bin {i:Nat} (h:i<12) (x y:Nd):(Nd.mk (10+(i:Int)) 0 [] .zero .zero [x,y]).spell=insT (levelP (10+i)) x.op x.spell++signL.getD i []++insT (levelP (10+i)+1) y.op y.spell:=by
 rw [Nd.spell,Nd.spells,Nd.spells,Nd.spells,spellK]
 rw [if_neg (by omega),if_neg (by omega),if_neg (by omega),if_neg (by omega),if_neg (by omega),if_neg (by omega),if_neg (by omega),if_neg (by omega),if_neg (by omega),if_neg (by omega),show (10+(i:Int)-10).toNat=i by omega]
 rfl
theorem nest_bin {i:Nat} (h:i<12) (x y:Nd):(Nd.mk (10+(i:Int)) 0 [] .zero .zero [x,y]).nest=max (insD (levelP (10+i)) x.op x.nest) (insD (levelP (10+i)+1) y.op y.nest):=by
 rw [Nd.nest,Nd.nests,Nd.nests,Nd.nests,nestK]
 rw [if_neg (by omega),if_neg (by omega),if_neg (by omega),if_pos (by omega)]
 rfl
theorem spell_sign {op:Int} (h:op=7\/op=8) (x:Nd):(Nd.mk op 0 [] .zero .zero [x]).spell = [if op=7 then 45 else 43]++insT 6 x.op x.spell:=by
 rcases h with rfl|rfl<;>rfl
theorem nest_sign {op:Int} (h:op=7\/op=8) (x:Nd):(Nd.mk op 0 [] .zero .zero [x]).nest=1+insD 6 x.op x.nest:=by
 rcases h with rfl|rfl<;>rfl
theorem spell_hund (x:Nd):(Nd.mk 9 0 [] .zero .zero [x]).spell=insT 7 x.op x.spell ++ [37]:=rfl
theorem nest_hund (x:Nd):(Nd.mk 9 0 [] .zero .zero [x]).nest=insD 7 x.op x.nest:=rfl
def joinS (ks:List Nd):List UInt8:=match ks with
 | [] => []
 | x::xs=>x.spell++xs.flatMap fun k=>44::k.spell
theorem spell_call (s:List UInt8) (ks:List Nd):(Nd.mk 22 0 s .zero .zero ks).spell=s++([40]++(joinS ks ++ [41])):=by
 rw [Nd.spell,Nd.spells_map]
 show s++40::joinC _ ++ [41]=_
 cases ks with
 | nil=>simp [joinC,joinS]
 | cons x xs=>
   rw [List.map_cons,joinC,flat_snd]
   simp [joinS]
theorem nest_call (s:List UInt8) (ks:List Nd):(Nd.mk 22 0 s .zero .zero ks).nest=1+(ks.map Nd.nest).foldr max 0:=by
 rw [Nd.nest,Nd.nests_map]
 show 1+((ks.map fun x=>(x.op,x.nest)).map (·.2)).foldr max 0=_
 rw [List.map_map]
 rfl
theorem fail_text {k:Nat} (h:k<7):failT 4 (((k:Int)+1)*10000)=errL.getD k []:=by
 unfold failT
 rw [Int.mul_tdiv_cancel _ (by decide),if_neg (by omega),show ((k:Int)+1-1).toNat=k by omega]
end Go.A
namespace Go.A
open Go.Proofs Go.Lib
/-! Such texts' tokens. -/
end Go.A
namespace Go.A
open Go.Proofs Go.Lib
section
variable {T:List Tok}
variable (T)
variable {T}
/-! A kid,in brackets if it binds less closely. -/
/-! Leaves. -/
/-! Nodes with kids. -/
/-! Calls. -/
end
end Go.A
namespace Go.A
open Go.Proofs Go.Lib
/-! Great letters. -/
theorem byte_all {P:UInt8->Prop} [∀ c,Decidable (P c)] (h:(List.range 256).all (fun n=>decide (P (UInt8.ofNat n)))=true) (c:UInt8):P c:=by
 have:=List.all_eq_true.1 h c.toNat (List.mem_range.2 c.toNat_lt)
 simpa using this
theorem gr_letter (c:UInt8):letterP (greatC c).toNat=letterP c.toNat:=byte_all (P:=fun c=>letterP (greatC c).toNat=letterP c.toNat) (by decide +kernel) c
theorem gr_isL (c:UInt8):isL (greatC c)=isL c:=byte_all (P:=fun c=>isL (greatC c)=isL c) (by decide +kernel) c
theorem gr_isD (c:UInt8):isD (greatC c)=isD c/\(isD c=true->greatC c=c):=byte_all (P:=fun c=>isD (greatC c)=isD c/\(isD c=true->greatC c=c)) (by decide +kernel) c
theorem gr_sign (c:UInt8):((greatC c).toNat=48↔c.toNat=48)/\((greatC c).toNat=36↔c.toNat=36)/\((greatC c).toNat=46↔c.toNat=46)/\(((greatC c).toNat:Int)=95↔(c.toNat:Int)=95):=byte_all (P:=fun c=>((greatC c).toNat=48↔c.toNat=48)/\((greatC c).toNat=36↔c.toNat=36)/\((greatC c).toNat=46↔c.toNat=46)/\(((greatC c).toNat:Int)=95↔(c.toNat:Int)=95)) (by decide +kernel) c
theorem gr_word (c:UInt8):wordB (greatC c)=wordB c/\digB (greatC c)=digB c/\greatC (greatC c)=greatC c:=byte_all (P:=fun c=>wordB (greatC c)=wordB c/\digB (greatC c)=digB c/\greatC (greatC c)=greatC c) (by decide +kernel) c
theorem great_idem (l:List UInt8):greatP (greatP l)=greatP l:=by
 unfold greatP
 rw [List.map_map]
 exact List.map_congr_left fun c _=>(gr_word c).2.2
theorem runL_great (p:UInt8->Bool) (hp:∀ c,p (greatC c)=p c):∀ l,runL p (greatP l)=runL p l
 | []=>rfl
 | c::l=>by
   show runL p (greatC c::greatP l)=_
   rw [runL,runL,hp,runL_great p hp l]
theorem numF_great:∀ (l:List UInt8) (n:Int),numF n (greatP l)=numF n l
 | [],n=>rfl
 | c::l,n=>by
   show numF n (greatC c::greatP l)=_
   rw [numF,numF,(gr_isD c).1]
   by_cases h:isD c=true
   ·rw [if_pos h,if_pos h,(gr_isD c).2 h,numF_great l]
   ·rw [if_neg h,if_neg h]
theorem atP_great (l:List UInt8) (i:Nat):(atP (greatP l) i=48↔atP l i=48)/\(atP (greatP l) i=36↔atP l i=36)/\(atP (greatP l) i=95↔atP l i=95)/\letterP (atP (greatP l) i)=letterP (atP l i):=by
 unfold atP greatP
 rw [List.getElem?_map]
 cases l[i]? with
 | none=>exact ⟨Iff.rfl,Iff.rfl,Iff.rfl,rfl⟩
 | some c=>
   obtain ⟨h1,h2,h3,h4⟩:=gr_sign c
   simp only [Option.map_some]
   exact ⟨by omega,by omega,h4,gr_letter c⟩
theorem great_drop (l:List UInt8) (i:Nat):(greatP l).drop i=greatP (l.drop i):=by unfold greatP;rw [List.map_drop]
theorem great_take (l:List UInt8) (i:Nat):(greatP l).take i=greatP (l.take i):=by unfold greatP;rw [List.map_take]
theorem colF_gr:∀ (l:List UInt8) (n:Int),colF n (greatP l)=colF n l
 | [],n=>rfl
 | c::l,n=>by
   show colF n (greatC c::greatP l)=_
   rw [colF,colF,gr_letter]
   split
   ·rfl
   ·exact colF_gr l _
theorem columnP_gr (l:List UInt8):columnP (greatP l)=columnP l:=by unfold columnP;rw [colF_gr]
theorem readQ_gr (l:List UInt8) (i:Nat) (col:Int) (ar ac:Bool):readQ (greatP l) i col ar ac=readQ l i col ar ac:=by
 unfold readQ
 rw [great_drop,numF_great,runL_great isD fun c=>(gr_isD c).1]
 obtain ⟨a1,_,_,_⟩:=atP_great l i
 obtain ⟨_,_,b3,b4⟩:=atP_great l (i+runL isD (l.drop i))
 rw [b4]
 simp only [a1,b3]
theorem readR_gr (l:List UInt8) (i:Nat) (ac:Bool):readR (greatP l) i ac=readR l i ac:=by
 unfold readR
 rw [great_drop,runL_great isL gr_isL,great_take,great_drop,columnP_gr,readQ_gr,readQ_gr]
 simp only [(atP_great l (i+runL isL (l.drop i))).2.1]
theorem readP_gr (l:List UInt8):readP (greatP l)=readP l:=by
 unfold readP
 rw [readR_gr,readR_gr]
 simp only [(atP_great l 0).2.1]
theorem refB_gr (l:List UInt8):refB (greatP l)=refB l:=by
 unfold refB parseP
 rw [readP_gr,greatP_len]
theorem cutDot_gr:∀ l:List UInt8,cutDot (greatP l)=(greatP (cutDot l).1,(cutDot l).2.map greatP)
 | []=>rfl
 | c::l=>by
   show cutDot (greatC c::greatP l)=_
   rw [cutDot,cutDot,cutDot_gr l]
   by_cases h:c.toNat=46
   ·rw [if_pos h,if_pos ((gr_sign c).2.2.1.2 h)];rfl
   ·rw [if_neg h,if_neg (fun e=>h ((gr_sign c).2.2.1.1 e))];rfl
theorem all_gr (l:List UInt8):(greatP l).all digB=l.all digB:=by
 unfold greatP
 rw [List.all_map]
 congr 1
 funext c
 exact (gr_word c).2.1
theorem ne_gr (l:List UInt8):decide (greatP l ≠ [])=decide (l ≠ []):=by
 cases l<;>rfl
theorem numB_gr (l:List UInt8):numB (greatP l)=numB l:=by
 unfold numB
 rw [cutDot_gr]
 cases h:cutDot l with
 | mk w o=>
   cases o with
   | none=>simp only [Option.map_none];rw [ne_gr,all_gr]
   | some p=>
     simp only [Option.map_some]
     have e:greatP w++greatP p=greatP (w++p):=by unfold greatP;rw [List.map_append]
     rw [ne_gr,ne_gr,greatP_len,e,all_gr]
theorem nameB_gr (l:List UInt8):nameB (greatP l)=nameB l:=by
 unfold nameB
 rw [ne_gr]
 have h1:(greatP l).all (fun c=>wordB c && decide (c.toNat≠36))=l.all (fun c=>wordB c && decide (c.toNat≠36)):=by
  unfold greatP
  rw [List.all_map]
  congr 1
  funext c
  show (wordB (greatC c) && _)=_
  rw [(gr_word c).1]
  congr 1
  exact decide_eq_decide.2 (not_congr (gr_sign c).2.1)
 rw [h1]
 congr 2
 cases l with
 | nil=>rfl
 | cons c l=>
   show (digB (greatC c) || decide ((greatC c).toNat=46))=(digB c || decide (c.toNat=46))
   rw [(gr_word c).2.1]
   congr 1
   exact decide_eq_decide.2 (gr_sign c).2.2.1
/-! What tokens hold. -/
theorem quotedF_whole:∀ (k:Nat) (r:List UInt8) (p:Nat) (acc:List UInt8) kd t n,quotedF k r p acc = .tok kd t n->(∃ c,Sg acc c)->∃ c,Sg t c
 | 0,r,p,acc,kd,t,n,h,_=>by simp [quotedF] at h
 | k+1,r,p,acc,kd,t,n,h,ha=>by
   obtain ⟨c0,ha⟩:=ha
   by_cases hr:r = []
   ·subst hr;rw [quotedF_nil] at h;simp at h
   unfold quotedF at h
   rw [if_neg hr] at h
   split at h
   ·simp at h
   rename_i hv
   split at h
   ·have henc:=encode_decode r hr (by rintro ⟨h1,h2⟩;exact hv (by rw [<-h1,← h2]))
    rw [henc] at h
    exact quotedF_whole k _ _ _ kd t n h ⟨_,ha.join (Sg.one hr hv)⟩
   split at h
   ·exact quotedF_whole k _ _ _ kd t n h ⟨_,ha.join (Sg.ascii [34] (by decide))⟩
   ·simp only [Step.tok.injEq] at h
    obtain ⟨_,rfl,_⟩:=h
    exact ⟨_,ha⟩
theorem Sg.some {t:List UInt8} {c:Nat} (h:Sg t c):sgP t≠none:=by
 have:=(h.app []).1
 rw [List.append_nil,sgP_nil] at this
 rw [this]
 simp
structure TokNf (t:Tok):Prop where
 text:t.kind=2->sgP t.text≠none
 name:t.kind=3->NameOk t.text
theorem TokNf.of {kd:Int} {t:List UInt8} {a c:Nat} (h2:kd=2->sgP t≠none) (h3:kd=3->NameOk t):TokNf ⟨kd,t,a,c⟩:=⟨h2,h3⟩
theorem stepP_nf (r:List UInt8) {kd:Int} {t:List UInt8} {n:Nat} (h:stepP r = .tok kd t n) (a c:Nat):TokNf ⟨kd,t,a,c⟩:=by
 unfold stepP at h
 dsimp only at h
 split at h
 ·simp at h
 split at h
 ·simp at h
 split at h
 ·unfold wordsS at h
  dsimp only at h
  have hall:=runL_all2 wordB r
  split at h
  ·simp only [Step.tok.injEq] at h
   obtain ⟨rfl,rfl,rfl⟩:=h
   exact .of (fun h=>no1 h (by decide)) (fun h=>no1 h (by decide))
  rename_i hnum
  split at h
  ·simp only [Step.tok.injEq] at h
   obtain ⟨rfl,rfl,rfl⟩:=h
   exact .of (fun h=>no1 h (by decide)) (fun h=>no1 h (by decide))
  rename_i href
  split at h
  ·rename_i hn
   simp only [Step.tok.injEq] at h
   obtain ⟨rfl,rfl,rfl⟩:=h
   refine .of (fun h=>no1 h (by decide)) fun _=>⟨?_,by rw [nameB_gr];exact hn,by rw [numB_gr];simpa using hnum,by rw [refB_gr];simpa using href,great_idem _⟩
   intro c hc
   obtain ⟨d,hd,rfl⟩:=List.mem_map.1 hc
   rw [(gr_word d).1]
   exact hall d hd
  ·simp at h
 split at h
 ·obtain ⟨rfl,h2⟩:=quotedF_len _ _ _ _ _ _ _ h
  obtain ⟨c,hc⟩:=quotedF_whole _ _ _ _ _ _ _ h ⟨0,.nil⟩
  exact .of (fun _=>hc.some) (fun h=>no1 h (by decide))
 split at h
 ·obtain ⟨rfl,h2⟩:=failS_gd _ _ _ _ _ h
  exact .of (fun h=>no1 h (by decide)) (fun h=>no1 h (by decide))
 ·have key:kd=6:=by
   unfold opS at h
   split at h
   ·simp only [Step.tok.injEq] at h
    exact h.1.symm
   ·split at h
    ·simp only [Step.tok.injEq] at h
     exact h.1.symm
    ·split at h
     ·simp only [Step.tok.injEq] at h
      exact h.1.symm
     ·simp at h
  subst key
  exact .of (fun h=>no1 h (by decide)) (fun h=>no1 h (by decide))
theorem lexF_nf:∀ (k:Nat) (r:List UInt8) (a c:Nat) (acc L:List Tok) (x:Nat),lexF k r a c acc=(L,x,0)->(∀ t∈acc,TokNf t)->∀ t∈L,TokNf t
 | 0,r,a,c,acc,L,x,h,hacc=>by simp [lexF] at h
 | k+1,r,a,c,acc,L,x,h,hacc=>by
   rw [lexF] at h
   split at h
   ·simp only [Prod.mk.injEq] at h
    obtain ⟨rfl,_⟩:=h
    intro t ht
    rcases List.mem_append.1 ht with ht|ht
    ·exact hacc t ht
    ·simp at ht;subst ht;exact .of (fun h=>no1 h (by decide)) (fun h=>no1 h (by decide))
   ·split at h
    ·simp at h
    ·exact lexF_nf k _ _ _ _ _ _ h hacc
    ·rename_i kd t n hst
     exact lexF_nf k _ _ _ _ _ _ h (fun u hu=>by
      rcases List.mem_append.1 hu with hu|hu
      ·exact hacc u hu
      ·simp at hu;subst hu;exact stepP_nf r hst a c)
theorem lex_nf {s:List UInt8} (h:(lexP s).2.2=0) (i:Nat):TokNf ((lexP s).1.getD i endT):=by
 have hall:∀ t∈(lexP s).1,TokNf t:=by
  unfold lexP at h ⊢
  split
  ·intro t ht;cases ht
  ·rename_i hl
   rw [if_neg hl] at h
   obtain ⟨R,hR⟩:∃ R,lexF (s.length+1) s 0 0 []=R:=⟨_,rfl⟩
   rw [hR] at h ⊢
   obtain ⟨L,x,e⟩:=R
   dsimp only at h ⊢
   subst h
   exact lexF_nf _ _ _ _ _ _ _ hR (by simp)
 rw [List.getD_eq_getElem?_getD]
 cases hi:(lexP s).1[i]? with
 | none=>exact .of (fun h=>no1 h (by decide)) (fun h=>no1 h (by decide))
 | some t=>exact hall t (List.mem_of_getElem? hi)
theorem numB_min {s:List UInt8} (h:numB s=true):s.head? ≠ some 45:=by
 intro e
 cases s with
 | nil=>cases e
 | cons c s=>
   injection e with e
   subst e
   unfold numB at h
   rw [cutDot,if_neg (by decide)] at h
   split at h
   ·rename_i w he
    injection he with h1 h2
    subst h1
    simp only [List.all_cons,Bool.and_eq_true] at h
    exact absurd h.2.1 (by decide)
   ·rename_i w p he
    injection he with h1 h2
    subst h1
    simp only [List.cons_append,List.all_cons,Bool.and_eq_true] at h
    exact absurd h.2.1 (by decide)
theorem parseD_pos {s:List UInt8} {v:Int} (hn:numB s=true) (h:parseD s=some v):0<=v:=by
 have hm:=numB_min hn
 unfold parseD at h
 dsimp only at h
 rw [if_neg hm,decide_eq_false hm] at h
 unfold parseQ at h
 split at h
 ·cases h
 ·obtain ⟨n,_,hn⟩:=Option.bind_eq_some_iff.1 h
  unfold madeP at hn
  split at hn
  ·injection hn with hn
   simp only [Bool.false_eq_true,if_false] at hn
   omega
  ·cases hn
/-! The parser's trees. -/
theorem insD_up {a b op:Int} {d:Nat} (h:a<=b):insD a op d<=insD b op d:=by
 unfold insD
 split<;>split<;>omega
theorem insD_le (a op:Int) (d:Nat):d<=insD a op d/\insD a op d<=d+1:=by
 unfold insD
 split<;>omega
theorem insD_top {a op:Int} {d:Nat} (h:a<=levelP op):insD a op d=d:=if_pos h
theorem sign_is {x:List UInt8} {l:Nat} (hl:l<5) (h:x∈levelsL.getD l []):levelP (10+idxP signL x)=l+1:=by
 have key:∀ l<5,∀ y∈levelsL.getD l [],levelP (10+idxP signL y)=l+1:=by decide
 exact key l hl x h
theorem op_mk (op n:Int) (s:List UInt8) (a b:Ref) (ks:List Nd):(Nd.mk op n s a b ks).op=op:=rfl
section
variable {T:List Tok}
def Okn (d:Int) (least:Int) (n:Nd):Prop:=Nf n/\n.op≠23/\d+insD least n.op n.nest<=40
structure NfF (T:List Tok) (f:Nat):Prop where
 betw:∀ (lvl:Nat) s r,betwP T f lvl s=some r->lvl<=5->Fit T s->r.2.err=0->Okn s.deep (lvl+1) r.1
 loop:∀ (lvl:Nat) n s r,loopP T f lvl n s=some r->lvl<5->Fit T s->r.2.err=0->Okn s.deep (lvl+1) n->Okn s.deep (lvl+1) r.1
 signed:∀ s r,signedP T f s=some r->Fit T s->r.2.err=0->Okn s.deep 6 r.1
 hundred:∀ s r,hundredP T f s=some r->Fit T s->r.2.err=0->Okn s.deep 7 r.1
 hloop:∀ n s r,hloopP T f n s=some r->Fit T s->r.2.err=0->Okn s.deep 7 n->Okn s.deep 7 r.1
 prim:∀ s r,primP T f s=some r->Fit T s->r.2.err=0->Okn s.deep 8 r.1
 name:∀ s r,nameP T f s=some r->Fit T s->(curT T s).kind=3->r.2.err=0->Okn s.deep 8 r.1
 args:∀ s r,argsP T f s=some r->Fit T s->r.2.err=0->(∀ x∈r.1,Nf x/\s.deep+x.nest<=40)/\∀ k,r.1 = [k]->k.op≠23
 aloop:∀ l s r,aloopP T f l s=some r->Fit T s->r.2.err=0->(∀ x∈l,Nf x/\s.deep+x.nest<=40)->(l = []->isOp T s [41]=false)->(∀ x∈r.1,Nf x/\s.deep+x.nest<=40)/\l.length<r.1.length/\∀ k,r.1 = [k]->k.op≠23
theorem Okn.leaf {d:Int} {n:Nd} (h:Nf n) (h2:levelP n.op=8) (h3:n.op≠23) (h0:n.nest=0) (hd:d<=40):Okn d 8 n:=⟨h,h3,by rw [insD_top (by omega),h0];omega⟩
theorem Okn.down {d a b:Int} {n:Nd} (h:Okn d b n) (hab:a<=b):Okn d a n:=⟨h.1,h.2.1,by have:=insD_up (op:=n.op) (d:=n.nest) hab;have:=h.2.2;omega⟩
theorem idx_sig {x:List UInt8} {l:Nat} (h:x∈levelsL.getD l []):∃ i:Nat,i<12/\idxP signL x=i:=by
 have:=sign_rng h
 exact ⟨(idxP signL x).toNat,by omega,by omega⟩
theorem nest_max (ks:List Nd) (m:Int) (h0:0<=m) (h:∀ x∈ks,(x.nest:Int)<=m):(((ks.map Nd.nest).foldr max 0:Nat):Int)<=m:=by
 induction ks with
 | nil=>simpa using h0
 | cons x ks ih=>
   have h1:=h x (by simp)
   have h2:=ih fun y hy=>h y (by simp [hy])
   rw [List.map_cons,List.foldr_cons]
   omega
theorem nfF (hT:Ends T) (hG:∀ i,(T.getD i endT).kind≠0->TokGd (T.getD i endT)) (hN:∀ i,TokNf (T.getD i endT)):∀ f,NfF T f
 | 0=>by
   constructor
   ·intro lvl s r h;simp only [betwP,reduceCtorEq] at h
   ·intro lvl n s r h;simp only [loopP,reduceCtorEq] at h
   ·intro s r h;simp only [signedP,reduceCtorEq] at h
   ·intro s r h;simp only [hundredP,reduceCtorEq] at h
   ·intro n s r h;simp only [hloopP,reduceCtorEq] at h
   ·intro s r h;simp only [primP,reduceCtorEq] at h
   ·intro s r h;simp only [nameP,reduceCtorEq] at h
   ·intro s r h;simp only [argsP,reduceCtorEq] at h
   ·intro l s r h;simp only [aloopP,reduceCtorEq] at h
 | f+1=>by
   have ih:=nfF hT hG hN f
   have W:=wentF hT f
   constructor
   ·intro lvl s r h hl hf h0
    rw [betwP] at h
    split at h
    ·rename_i h5;subst h5;exact ih.signed s r h hf h0
    ·split at h
     ·cases h
     ·rename_i h5 _ r1 h1
      have w1:=W.betw _ _ _ h1 hf
      have w2:=W.loop _ _ _ _ h w1.fit
      have g1:=ih.betw _ _ _ h1 (by omega) hf (w2.e0 h0)
      have g2:=ih.loop _ _ _ _ h (by omega) w1.fit h0 (by rw [w1.deep];exact g1.down (by omega))
      rw [w1.deep] at g2
      exact g2
   ·intro lvl n s r h hl hf h0 hn
    rw [loopP] at h
    split at h
    ·rename_i hk
     split at h
     ·cases h
     ·rename_i r1 h1
      have w0:=Went.next hT hf (sgn_kind hk)
      have w1:=W.betw _ _ _ h1 w0.fit
      have w2:=W.loop _ _ _ _ h w1.fit
      have g1:=ih.betw _ _ _ h1 (by omega) w0.fit (w2.e0 h0)
      have hs:(curT T s).text∈levelsL.getD lvl []:=by
       unfold sgn at hk
       simp only [Bool.and_eq_true,decide_eq_true_eq] at hk
       exact hk.2
      have hlv:=sign_is hl hs
      obtain ⟨i,hi,hix⟩:=idx_sig hs
      rw [hix] at h hlv
      have hd:r1.2.deep=s.deep:=by rw [w1.deep];rfl
      have hb:Okn s.deep (lvl+1) (.mk (10+(i:Int)) 0 [] .zero .zero [n,r1.1]):=by
       refine ⟨.bin hi hn.1 hn.2.1 g1.1 g1.2.1,by show 10+(i:Int)≠23;omega,?_⟩
       rw [nest_bin hi,op_mk,insD_top (show (lvl:Int)+1<=levelP (10+(i:Int)) by omega),hlv]
       have a1:=hn.2.2
       have a2:s.deep+insD ((lvl+1:Nat)+1) r1.1.op r1.1.nest<=40:=g1.2.2
       rw [show (((lvl+1:Nat):Int)+1)=(lvl:Int)+1+1 by omega] at a2
       omega
      have g2:=ih.loop _ _ _ _ h hl w1.fit h0 (by rw [hd];exact hb)
      rw [hd] at g2
      exact g2
    ·injection h with h;subst h;exact hn
   ·intro s r h hf h0
    rw [signedP] at h
    have one:∀ (op:Int) (r1:Nd×PSt),op=7\/op=8->isOp T s [if op=7 then 45 else 43]=true->signedP T f (stepP1 (enterP T s))=some r1->r1.2.err=0->Okn s.deep 6 (.mk op 0 [] .zero .zero [r1.1]):=by
     intro op r1 ho hk h1 he
     obtain ⟨e1,e2,e3⟩:=enter_fit hT hf (isOp_kind hk)
     have w1:=W.signed _ _ h1 e1
     have g1:=ih.signed _ _ h1 e1 he
     rw [e2] at g1
     refine ⟨.sign ho g1.1 g1.2.1,by show op≠23;omega,?_⟩
     rw [nest_sign ho,op_mk,insD_top (show (6:Int)<=levelP op by rcases ho with rfl|rfl<;>decide)]
     have:=g1.2.2
     omega
    split at h
    ·rename_i hk
     split at h
     ·cases h
     ·rename_i r1 h1
      injection h with h;subst h
      exact one 7 r1 (.inl rfl) hk h1 h0
    split at h
    ·rename_i hk
     split at h
     ·cases h
     ·rename_i r1 h1
      injection h with h;subst h
      exact one 8 r1 (.inr rfl) hk h1 h0
    ·exact (ih.hundred _ _ h hf h0).down (by decide)
   ·intro s r h hf h0
    rw [hundredP] at h
    split at h
    ·cases h
    ·rename_i r1 h1
     have w1:=W.prim _ _ h1 hf
     have w2:=W.hloop _ _ _ h w1.fit
     have g1:=ih.prim _ _ h1 hf (w2.e0 h0)
     have g2:=ih.hloop _ _ _ h w1.fit h0 (by rw [w1.deep];exact g1.down (by decide))
     rw [w1.deep] at g2
     exact g2
   ·intro n s r h hf h0 hn
    rw [hloopP] at h
    split at h
    ·rename_i hk
     have w0:=Went.next hT hf (isOp_kind hk)
     have g:=ih.hloop _ _ _ h w0.fit h0
     refine g ⟨.hund hn.1 hn.2.1,by show (9:Int)≠23;decide,?_⟩
     rw [nest_hund,op_mk,insD_top (show (7:Int)<=levelP 9 by decide)]
     exact hn.2.2
    ·injection h with h;subst h;exact hn
   ·intro s r h hf h0
    have hd:=hf.d2
    have hgd:(curT T s).kind≠0->TokGd (curT T s)/\TokNf (curT T s)/\s.deep<=40:=fun hk=>by
     have he:=cur_err hk
     rw [cur_at he] at hk ⊢
     exact ⟨hG _ hk,hN _,hd he⟩
    rw [primP] at h
    split at h
    ·rename_i hk
     obtain ⟨t1,t2,t3⟩:=hgd (by omega)
     split at h
     ·injection h with h;subst h;exact absurd h0 fun h=>fail_err (by decide) h
     ·rename_i v hv
      injection h with h;subst h
      have:=parseD_rng hv
      have:=parseD_pos (t1.num hk) hv
      exact Okn.leaf (.num (by omega) (by omega)) rfl (show (1:Int)≠23 by decide) rfl t3
    split at h
    ·rename_i hk
     obtain ⟨t1,t2,t3⟩:=hgd (by omega)
     injection h with h;subst h
     exact Okn.leaf (.text (t2.text hk) t1.len) rfl (show (2:Int)≠23 by decide) rfl t3
    split at h
    ·rename_i hk
     obtain ⟨t1,t2,t3⟩:=hgd (by omega)
     injection h with h;subst h
     have hr:=fault_rng (t1.err hk)
     obtain ⟨k,hk7,hke⟩:∃ k:Nat,k<7/\idxP errL (curT T s).text=k:=⟨(idxP errL (curT T s).text).toNat,by omega,by omega⟩
     rw [hke]
     exact Okn.leaf (.fail hk7) rfl (show (4:Int)≠23 by decide) rfl t3
    split at h
    ·rename_i hk
     obtain ⟨t1,t2,t3⟩:=hgd (by omega)
     injection h with h;subst h
     unfold areaP at h0 ⊢
     split at h0
     ·rename_i ho
      rw [if_pos ho]
      exact Okn.leaf (.cell (parseP_good _)) rfl (show (5:Int)≠23 by decide) rfl t3
     ·rename_i ho
      rw [if_neg ho]
      split at h0
      ·exact absurd h0 fun h=>fail_err (by decide) h
      ·rename_i hk2
       rw [if_neg hk2]
       exact Okn.leaf (.area (parseP_good _) (parseP_good _)) rfl (show (6:Int)≠23 by decide) rfl t3
    split at h
    ·rename_i hk
     exact ih.name _ _ h hf hk h0
    split at h
    ·rename_i hk
     split at h
     ·cases h
     ·rename_i r1 h1
      injection h with h;subst h
      obtain ⟨e1,e2,e3⟩:=enter_fit hT hf (isOp_kind hk)
      obtain ⟨m1,m2⟩:=must_i (T:=T) (s:=r1.2) (x := [41]) h0
      have g1:=ih.betw _ _ _ h1 (by omega) e1 m1
      rw [e2] at g1
      refine ⟨g1.1,g1.2.1,?_⟩
      have:=g1.2.2
      have:=(insD_le (((0:Nat):Int)+1) r1.1.op r1.1.nest).1
      have:=(insD_le 8 r1.1.op r1.1.nest).2
      dsimp only
      omega
    ·injection h with h;subst h;exact absurd h0 fun h=>fail_err (by decide) h
   ·intro s r h hf hk3 h0
    have he0:s.err=0:=cur_err (T:=T) (by omega)
    have hn:=hf.next hT (by omega)
    have hd:=hf.d2 he0
    have hnf:TokNf (curT T s):=by rw [cur_at he0];exact hN _
    have hgd:TokGd (curT T s):=by
     have hk:(curT T s).kind≠0:=by omega
     rw [cur_at he0] at hk ⊢
     exact hG _ hk
    rw [nameP] at h
    split at h
    ·rename_i hk
     split at h
     ·rename_i he
      injection h with h;subst h
      exact absurd h0 he
     ·rename_i he
      split at h
      ·cases h
      ·rename_i r1 h1
       injection h with h;subst h
       obtain ⟨g1,g2,g3,_⟩:=enter2 hT hf (by omega) (by simpa using he)
       have hl:=hT.more (s.i+1) hn.1.i (by omega)
       have g4:Fit T (enterP T s).next.next:=⟨by show (enterP T s).i+1+1<_;omega,g1.d0,g1.d1,g1.d2⟩
       obtain ⟨k1,k2⟩:=ih.args _ _ h1 g4 h0
       have hdd:(enterP T s).next.next.deep=s.deep+1:=by
        show (enterP T s).deep=_
        unfold enterP
        split
        ·unfold failP;split<;>rfl
        ·rfl
       rw [hdd] at k1
       have hen:s.deep+1<=40:=by
        rcases Int.lt_or_le 40 (s.deep+1) with h40|h40
        ·exfalso
         apply he
         unfold enterP
         rw [if_pos h40]
         unfold failP
         simp [he0]
        ·exact h40
       refine ⟨.call (hnf.name hk3) hgd.len (fun k hk'=>(k1 k hk').1) k2,by show (22:Int)≠23;decide,?_⟩
       rw [op_mk,insD_top (show (8:Int)<=levelP 22 by decide),nest_call]
       have:=nest_max r1.1 (40-(s.deep+1)) (by omega) (fun x hx=>by have:=(k1 x hx).2;omega)
       omega
    split at h
    ·injection h with h;subst h
     exact Okn.leaf (.truth (.inr rfl)) rfl (show (3:Int)≠23 by decide) rfl hd
    split at h
    ·injection h with h;subst h
     exact Okn.leaf (.truth (.inl rfl)) rfl (show (3:Int)≠23 by decide) rfl hd
    ·injection h with h;subst h;exact absurd h0 fun h=>fail_err (by decide) h
   ·intro s r h hf h0
    rw [argsP] at h
    split at h
    ·injection h with h;subst h
     exact ⟨fun x hx=>(by cases hx),fun k hk=>(by cases hk)⟩
    ·rename_i hk
     obtain ⟨k1,_,k3⟩:=ih.aloop _ _ _ h hf h0 (fun x hx=>(by cases hx)) (fun _=>by simpa using hk)
     exact ⟨k1,k3⟩
   ·intro l s r h hf h0 hl hb
    rw [aloopP] at h
    split at h
    ·rename_i he
     injection h with h;subst h;exact absurd h0 he
    ·rename_i he
     have hd:=hf.d2 (by simpa using he)
     split at h
     ·cases h
     ·rename_i r1 h1
      have w1:Went T s r1.2:=by
       split at h1
       ·injection h1 with h1;subst h1;exact Went.refl hf
       ·exact W.betw _ _ _ h1 hf
      have key:r1.2.err=0->(Nf r1.1/\s.deep+r1.1.nest<=40):=fun k0=>by
       split at h1
       ·injection h1 with h1;subst h1
        exact ⟨.miss,by show s.deep+((0:Nat):Int)<=40;omega⟩
       ·obtain ⟨k1,k2,k3⟩:=ih.betw _ _ _ h1 (by omega) hf k0
        have:=(insD_le (((0:Nat):Int)+1) r1.1.op r1.1.nest).1
        exact ⟨k1,by omega⟩
      have hmem:(Nf r1.1/\s.deep+r1.1.nest<=40)->∀ x∈l ++ [r1.1],Nf x/\s.deep+x.nest<=40:=fun k x hx=>by
       rcases List.mem_append.1 hx with hx|hx
       ·exact hl x hx
       ·simp at hx;subst hx;exact k
      split at h
      ·rename_i hk
       have w2:=Went.next hT w1.fit (isOp_kind hk)
       have w3:=W.aloop _ _ _ h w2.fit
       have k1:=key (w2.e0 (w3.e0 h0))
       have hdd:r1.2.next.deep=s.deep:=w1.deep
       obtain ⟨g1,g2,g3⟩:=ih.aloop _ _ _ h w2.fit h0 (by rw [hdd];exact hmem k1) (fun e=>by simp at e)
       rw [hdd] at g1
       rw [List.length_append,List.length_singleton] at g2
       refine ⟨g1,by omega,fun k hk'=>?_⟩
       rw [hk'] at g2
       simp at g2
      ·rename_i hk
       injection h with h;subst h
       obtain ⟨m1,m2⟩:=must_i (T:=T) (s:=r1.2) (x := [41]) h0
       have k1:=key m1
       refine ⟨hmem k1,by dsimp only;rw [List.length_append,List.length_singleton];omega,fun k hk'=>?_⟩
       dsimp only at hk'
       cases l with
       | cons y l=>
         have:=congrArg List.length hk'
         simp at this
       | nil=>
         simp only [List.nil_append,List.cons.injEq,and_true] at hk'
         subst hk'
         split at h1
         ·rename_i hor
          injection h1 with h1;subst h1
          exfalso
          rcases hor with hor|hor
          ·exact hk hor
          ·rw [hb rfl] at hor;cases hor
         ·exact (ih.betw _ _ _ h1 (by omega) hf m1).2.1
end
theorem parseR_nf {s:List UInt8} (h:(parseR s).2.2=0):Nf (parseR s).1/\(parseR s).1.op≠23/\(parseR s).1.nest<=40:=by
 unfold parseR parseT at h ⊢
 by_cases h1:(lexP s).2.2=0
 ·obtain ⟨hT,hL,hG⟩:=lex_toks h1
  obtain ⟨r,hr⟩:=betw_some h1
  have hr':=hr
  unfold st0 at hr
  rw [if_neg (by simp [h1]),hr] at h ⊢
  dsimp only at h ⊢
  obtain ⟨q,hq⟩:∃ q,(if (curT (lexP s).1 r.2).kind≠0 then failP (lexP s).1 r.2 10 else r.2)=q:=⟨_,rfl⟩
  rw [hq] at h ⊢
  by_cases he:q.err≠0
  ·rw [if_pos he] at h
   exact absurd h he
  ·rw [if_neg he]
   have h0:r.2.err=0:=by
    split at hq
    ·subst hq
     exact absurd (by simpa using he) fun h=>fail_err (T:=(lexP s).1) (s:=r.2) (e:=10) (by decide) h
    ·subst hq
     simpa using he
   obtain ⟨g1,g2,g3⟩:=(nfF hT.ends hG (lex_nf h1) _).betw _ _ _ hr' (by omega) (st0_fit hT.ends) h0
   have hd0:st0.deep=0:=rfl
   have:=(insD_le (((0:Nat):Int)+1) r.1.op r.1.nest).1
   exact ⟨g1,g2,by show r.1.nest<=40;omega⟩
 ·rw [if_pos (by simpa using h1)] at h
  exact absurd h h1
/-! Grown trees. -/
end Go.A
namespace Go.A
open Go.Proofs Go.Lib
theorem dbl_le2 (s:List UInt8):(dbl s).length<=2*s.length:=by
 unfold dbl
 induction s with
 | nil=>simp
 | cons c s ih=>
   rw [List.flatMap_cons,List.length_append,List.length_cons]
   split<;>simp only [List.length_cons,List.length_nil]<;>omega
theorem quotT_len (s:List UInt8):(quotT s).length<=2*s.length+2:=by
 have h:(quotT s).length=(dbl s).length+2:=by unfold quotT dbl;simp
 have:=dbl_le2 s
 omega
theorem insT_len (least op:Int) (x:List UInt8):(insT least op x).length<=x.length+2:=by
 unfold insT
 split
 ·omega
 ·simp
theorem signs_le2:∀ i<12,(signL.getD i []).length<=2:=by decide
theorem errL_len:∀ k<7,(errL.getD k []).length<=7:=by decide
theorem joinS_len (ks:List Nd) (h:∀ k∈ks,k.spell.length+1<=16300*k.size):(joinS ks).length<=16300*Nd.sizes ks:=by
 have flat:∀ l:List Nd,(∀ k∈l,k.spell.length+1<=16300*k.size)->(l.flatMap fun k=>44::k.spell).length<=16300*Nd.sizes l:=by
  intro l
  induction l with
  | nil=>intro _;simp
  | cons x l ih=>
    intro hl
    have h1:=hl x (by simp)
    have h2:=ih fun k hk=>hl k (by simp [hk])
    rw [List.flatMap_cons,List.length_append,List.length_cons,Nd.sizes]
    omega
 cases ks with
 | nil=>simp [joinS]
 | cons x l=>
   have h1:=h x (by simp)
   have h2:=flat l fun k hk=>h k (by simp [hk])
   rw [joinS,List.length_append,Nd.sizes]
   omega
theorem nf_spell {n:Nd} (h:Nf n):n.spell.length+1<=16300*n.size:=by
 induction h with
 | @num n h0 h1=>
   have e:(Nd.mk 1 n [] .zero .zero []).spell=textD n:=rfl
   have:=textD_len (a:=n) (by omega)
   rw [leaf_size,e]
   omega
 | @text s _ hs=>
   have e:(Nd.mk 2 0 s .zero .zero []).spell=quotT s:=rfl
   have:=quotT_len s
   rw [leaf_size,e]
   omega
 | @truth b hb=>
   rcases hb with rfl|rfl
   ·exact (by decide:6<=16300*1)
   ·exact (by decide:5<=16300*1)
 | @fail k hk=>
   have e:(Nd.mk 4 (((k:Int)+1)*10000) [] .zero .zero []).spell=errL.getD k []:=fail_text hk
   have:=errL_len k hk
   rw [leaf_size,e]
   omega
 | @cell r hr=>
   have e:(Nd.mk 5 0 [] r .zero []).spell=textP r:=rfl
   have:=text_len hr
   rw [leaf_size,e]
   omega
 | @area r q hr hq=>
   have e:(Nd.mk 6 0 [] r q []).spell=textP r ++ [58]++textP q:=rfl
   have:=text_len hr
   have:=text_len hq
   rw [leaf_size,e,List.length_append,List.length_append,List.length_singleton]
   omega
 | @sign op x ho hx hne ih=>
   have:=insT_len 6 x.op x.spell
   rw [one_size,spell_sign ho,List.length_append,List.length_singleton]
   omega
 | @hund x hx hne ih=>
   have:=insT_len 7 x.op x.spell
   rw [one_size,spell_hund,List.length_append,List.length_singleton]
   omega
 | @bin i x y hi hx hnx hy hny ihx ihy=>
   have h1:=insT_len (levelP (10+i)) x.op x.spell
   have h2:=insT_len (levelP (10+i)+1) y.op y.spell
   have h3:=signs_le2 i hi
   rw [two_size,spell_bin hi,List.length_append,List.length_append]
   omega
 | @call s ks hs hl hk hm ih=>
   have h1:=joinS_len ks ih
   rw [Nd.size,spell_call,List.length_append,List.length_append,List.length_append,List.length_singleton,List.length_singleton]
   omega
 | miss=>exact (by decide:1<=16300*1)
end Go.A
namespace Go.A
open Go.Proofs
/-! 3: tabular/tabularlaw20.TileTyped -/
def c3_7:ACode := .seq (.ops [ oe 1 (.box (.t 0)),oq 2 (.mv (.v (.bool false)))]) (.seq (.ops [ oq 5 (.ld (some 5) (.t 1)),oe 6 (.call 8 [(.t 5)]),oe 3 (.alloc [(.int .i64 0),(.int .i64 0),(.str []),(.int .i64 0),(.int .i64 0),(.bool false),(.bool false),(.int .i64 0),(.int .i64 0),(.bool false),(.bool false),(.sl .full []),.nili]),oz (.store 13 (.t 3) (.t 6))]) (.seq (.ops [ oq 7 (.ld (some 13) (.t 3)),oe 8 (.call 9 [(.t 7)]),oq 4 (.mv (.t 8))]) (.seq (.ops [ oe 9 (.call 10 []),oq 10 (.mv (.t 9)),⟨some 11,some (10,true),.q (.mv (.t 4)),[]⟩,⟨some 12,some (10,true),.q (.lenS (.t 11)),[]⟩,⟨some 13,some (10,true),.q (.bin .gtr (.t 12) (.v (.int .i64 0))),[]⟩,⟨some 14,some (10,true),.q (.mv (.t 13)),[]⟩,⟨some 15,some (14,true),.q (.mv (.t 4)),[]⟩,⟨some 16,some (14,true),.q (.idx (.t 15) (.v (.int .i64 0))),[]⟩,⟨some 17,some (14,true),.q (.bin .eql (.t 16) (.v (.int .u8 61))),[]⟩,⟨some 18,some (10,true),.q (.pick (.t 14) (.t 17) (.v (.bool false))),[]⟩,⟨some 19,some (10,true),.q (.ld (some 13) (.t 3)),[]⟩,⟨some 20,some (10,true),.e (.call 11 [(.t 19)]),[]⟩,⟨some 21,some (10,true),.q (.eq .b false (.t 18) (.t 20)),[]⟩,oq 22 (.pick (.t 10) (.t 21) (.v (.bool false))),oq 23 (.mv (.t 22)),⟨some 24,some (23,true),.q (.mv (.t 4)),[]⟩,⟨some 25,some (23,true),.q (.bin .eql (.t 24) (.v (.str []))),[]⟩,⟨some 26,some (23,true),.q (.ld (some 13) (.t 3)),[]⟩,⟨some 27,some (23,true),.e (.call 12 [(.t 26)]),[]⟩,⟨some 28,some (23,true),.q (.eq .b false (.t 25) (.t 27)),[]⟩,oq 29 (.pick (.t 23) (.t 28) (.v (.bool false))),oq 2 (.mv (.t 29))]) .ret)))
def c3:AFn:=⟨30,[.t 2],c3_7⟩
/-! 10: tabular/tabularlaw20.awake -/
def c10_1:ACode := .ops [ oq 2 (.build [(.int .i64 0),(.int .i64 0),(.str []),(.int .i64 0),(.int .i64 0),(.bool false),(.bool false),(.int .i64 0),(.int .i64 0),(.bool false),(.bool false),(.sl .full []),.nili,(.int .i64 0),(.int .i64 0),(.str []),(.int .i64 0),(.int .i64 0),(.bool false),(.bool false),(.int .i64 0),(.int .i64 0),(.bool false),(.bool false),(.sl .full []),.nili,(.int .i64 0),(.int .i64 0),(.str []),(.int .i64 0),(.int .i64 0),(.bool false),(.bool false),(.int .i64 0),(.int .i64 0),(.bool false),(.bool false),(.sl .full []),.nili,(.int .i64 0),(.int .i64 0),(.str []),(.int .i64 0),(.int .i64 0),(.bool false),(.bool false),(.int .i64 0),(.int .i64 0),(.bool false),(.bool false),(.sl .full []),.nili,(.int .i64 0),(.int .i64 0),(.str []),(.int .i64 0),(.int .i64 0),(.bool false),(.bool false),(.int .i64 0),(.int .i64 0),(.bool false),(.bool false),(.sl .full []),.nili,(.int .i64 0),(.int .i64 0),(.str []),(.int .i64 0),(.int .i64 0),(.bool false),(.bool false),(.int .i64 0),(.int .i64 0),(.bool false),(.bool false),(.sl .full []),.nili,(.int .i64 0),(.int .i64 0),(.str []),(.int .i64 0),(.int .i64 0),(.bool false),(.bool false),(.int .i64 0),(.int .i64 0),(.bool false),(.bool false),(.sl .full []),.nili,(.int .i64 0),(.int .i64 0),(.str []),(.int .i64 0),(.int .i64 0),(.bool false),(.bool false),(.int .i64 0),(.int .i64 0),(.bool false),(.bool false),(.sl .full []),.nili,(.int .i64 0),(.int .i64 0),(.str []),(.int .i64 0),(.int .i64 0),(.bool false),(.bool false),(.int .i64 0),(.int .i64 0),(.bool false),(.bool false),(.sl .full []),.nili,(.int .i64 0),(.int .i64 0),(.str []),(.int .i64 0),(.int .i64 0),(.bool false),(.bool false),(.int .i64 0),(.int .i64 0),(.bool false),(.bool false),(.sl .full []),.nili,(.int .i64 0),(.int .i64 0),(.str []),(.int .i64 0),(.int .i64 0),(.bool false),(.bool false),(.int .i64 0),(.int .i64 0),(.bool false),(.bool false),(.sl .full []),.nili,(.int .i64 0),(.int .i64 0),(.str []),(.int .i64 0),(.int .i64 0),(.bool false),(.bool false),(.int .i64 0),(.int .i64 0),(.bool false),(.bool false),(.sl .full []),.nili,(.int .i64 0),(.int .i64 0),(.str []),(.int .i64 0),(.int .i64 0),(.bool false),(.bool false),(.int .i64 0),(.int .i64 0),(.bool false),(.bool false),(.sl .full []),.nili,(.int .i64 0),(.int .i64 0),(.str []),(.int .i64 0),(.int .i64 0),(.bool false),(.bool false),(.int .i64 0),(.int .i64 0),(.bool false),(.bool false),(.sl .full []),.nili,(.int .i64 0),(.int .i64 0),(.str []),(.int .i64 0),(.int .i64 0),(.bool false),(.bool false),(.int .i64 0),(.int .i64 0),(.bool false),(.bool false),(.sl .full []),.nili,(.int .i64 0),(.int .i64 0),(.str []),(.int .i64 0),(.int .i64 0),(.bool false),(.bool false),(.int .i64 0),(.int .i64 0),(.bool false),(.bool false),(.sl .full []),.nili,(.int .i64 0),(.int .i64 0),(.str []),(.int .i64 0),(.int .i64 0),(.bool false),(.bool false),(.int .i64 0),(.int .i64 0),(.bool false),(.bool false),(.sl .full []),.nili,(.int .i64 0),(.int .i64 0),(.str []),(.int .i64 0),(.int .i64 0),(.bool false),(.bool false),(.int .i64 0),(.int .i64 0),(.bool false),(.bool false),(.sl .full []),.nili,(.int .i64 0),(.int .i64 0),(.str []),(.int .i64 0),(.int .i64 0),(.bool false),(.bool false),(.int .i64 0),(.int .i64 0),(.bool false),(.bool false),(.sl .full []),.nili,(.int .i64 0),(.int .i64 0),(.str []),(.int .i64 0),(.int .i64 0),(.bool false),(.bool false),(.int .i64 0),(.int .i64 0),(.bool false),(.bool false),(.sl .full []),.nili,(.int .i64 0),(.int .i64 0),(.str []),(.int .i64 0),(.int .i64 0),(.bool false),(.bool false),(.int .i64 0),(.int .i64 0),(.bool false),(.bool false),(.sl .full []),.nili,(.int .i64 0),(.int .i64 0),(.str []),(.int .i64 0),(.int .i64 0),(.bool false),(.bool false),(.int .i64 0),(.int .i64 0),(.bool false),(.bool false),(.sl .full []),.nili,(.int .i64 0),(.int .i64 0),(.str []),(.int .i64 0),(.int .i64 0),(.bool false),(.bool false),(.int .i64 0),(.int .i64 0),(.bool false),(.bool false),(.sl .full []),.nili,(.int .i64 0),(.int .i64 0),(.str []),(.int .i64 0),(.int .i64 0),(.bool false),(.bool false),(.int .i64 0),(.int .i64 0),(.bool false),(.bool false),(.sl .full []),.nili,(.int .i64 0),(.int .i64 0),(.str []),(.int .i64 0),(.int .i64 0),(.bool false),(.bool false),(.int .i64 0),(.int .i64 0),(.bool false),(.bool false),(.sl .full []),.nili,(.int .i64 0),(.int .i64 0),(.str []),(.int .i64 0),(.int .i64 0),(.bool false),(.bool false),(.int .i64 0),(.int .i64 0),(.bool false),(.bool false),(.sl .full []),.nili,(.int .i64 0),(.int .i64 0),(.str []),(.int .i64 0),(.int .i64 0),(.bool false),(.bool false),(.int .i64 0),(.int .i64 0),(.bool false),(.bool false),(.sl .full []),.nili,(.int .i64 0),(.int .i64 0),(.str []),(.int .i64 0),(.int .i64 0),(.bool false),(.bool false),(.int .i64 0),(.int .i64 0),(.bool false),(.bool false),(.sl .full []),.nili,(.int .i64 0),(.int .i64 0),(.str []),(.int .i64 0),(.int .i64 0),(.bool false),(.bool false),(.int .i64 0),(.int .i64 0),(.bool false),(.bool false),(.sl .full []),.nili,(.int .i64 0),(.int .i64 0),(.str []),(.int .i64 0),(.int .i64 0),(.bool false),(.bool false),(.int .i64 0),(.int .i64 0),(.bool false),(.bool false),(.sl .full []),.nili,(.int .i64 0),(.int .i64 0),(.str []),(.int .i64 0),(.int .i64 0),(.bool false),(.bool false),(.int .i64 0),(.int .i64 0),(.bool false),(.bool false),(.sl .full []),.nili,(.int .i64 0),(.int .i64 0),(.str []),(.int .i64 0),(.int .i64 0),(.bool false),(.bool false),(.int .i64 0),(.int .i64 0),(.bool false),(.bool false),(.sl .full []),.nili] []),oe 3 (.box (.t 2)),oq 1 (.mv (.t 3))]
def c10_6:ACode := .seq c10_1 (.seq (.ops [ oq 4 (.mv (.t 1)),oq 5 (.build [(.int .i64 0),(.int .i64 0),(.str [])] [(0,1,(.v (.int .i64 1))),(1,1,(.v (.int .i64 10000)))]),oq 8 (.nc (.t 4)),oe 6 (.call 33 [(.t 5)]),oe 7 (.call 28 [(.t 6)]),oq 9 (.iaa 32 13 (.t 8) (.v (.int .i64 5))),oz (.store 13 (.t 9) (.t 7))]) (.seq (.ops [ oq 10 (.mv (.t 1)),oe 11 (.call 20 [(.t 10),(.v (.int .i64 3))]),oq 12 (.bin .eql (.t 11) (.v (.str [3,1,5,1,1,160,156,1]))),oq 13 (.mv (.t 12)),⟨some 14,some (13,true),.q (.mv (.t 1)),[]⟩,⟨some 15,some (13,true),.e (.call 14 [(.t 14)]),[]⟩,⟨some 16,some (13,true),.q (.bin .eql (.t 15) (.v (.int .i64 1))),[]⟩,oq 17 (.pick (.t 13) (.t 16) (.v (.bool false))),oq 18 (.mv (.t 17)),⟨some 19,some (18,true),.q (.mv (.t 1)),[]⟩,⟨some 20,some (18,true),.e (.call 16 [(.t 19),(.v (.int .i64 0))]),[]⟩,⟨some 21,some (18,true),.q (.bin .eql (.t 20) (.v (.int .i64 3))),[]⟩,oq 22 (.pick (.t 18) (.t 21) (.v (.bool false))),oq 23 (.mv (.t 22)),⟨some 24,some (23,true),.q (.mv (.t 1)),[]⟩,⟨some 25,some (23,true),.q (.nc (.t 24)),[]⟩,⟨some 26,some (23,true),.q (.iaa 32 13 (.t 25) (.v (.int .i64 5))),[]⟩,⟨some 27,some (23,true),.q (.ld (some 13) (.t 26)),[]⟩,⟨some 28,some (23,true),.e (.call 9 [(.t 27)]),[]⟩,⟨some 29,some (23,true),.q (.bin .eql (.t 28) (.v (.str [49]))),[]⟩,oq 30 (.pick (.t 23) (.t 29) (.v (.bool false))),oq 0 (.mv (.t 30))]) .ret))
def c10_7:ACode := .seq (.ops [ oq 0 (.mv (.v (.bool false)))]) c10_6
def c10:AFn:=⟨31,[.t 0],c10_7⟩
theorem c10_ok:compF Tryz.prog Tryz.f10=some c10:=by kernel_rfl
theorem a10 {args:List AV} {σ:ASt} {R:AV->ASt->Prop} (hl:args.length<=31) (h:c10_7.wp Tryz.prog (RetQ [.t 0] R) (init args) σ):ACalls Tryz.prog 10 args σ R:=acalls_of Tryz.func10 c10_ok hl h
end Go.A
namespace Go.A
open Go.Proofs Go.Lib Go.Vint
def TC.cs (c:TC):List AV:=cellCs c.t.op (match c.t with | .mk _ n _ _ _ _=>n) (match c.t with | .mk _ _ s _ _ _=>s) (match c.t with | .mk _ _ _ a _ _=>a) (match c.t with | .mk _ _ _ _ b _=>b) (c.t.kids.map Nd.av) (voAV c.v)
theorem TC.av_cs (c:TC):c.av = .agg c.cs:=by obtain ⟨⟨op,n,s,a,b,ks⟩,v⟩:=c;rfl
theorem TC.cs_len (c:TC):c.cs.length=13:=rfl
def tileCs (T:List TC):List AV:=T.flatMap TC.cs
theorem tileCs_len (T:List TC):(tileCs T).length=T.length*13:=by
 induction T with
 | nil=>rfl
 | cons c T ih=>
   unfold tileCs at ih ⊢
   rw [List.flatMap_cons,List.length_append,ih,TC.cs_len,List.length_cons]
   omega
theorem tileCs_at {T:List TC}:∀ {i:Nat} {c:TC},T[i]? = some c->((tileCs T).drop (i*13)).take 13=c.cs:=by
 induction T with
 | nil=>intro i c h;simp at h
 | cons d T ih=>
   intro i c h
   have hl:=TC.cs_len d
   unfold tileCs at ih ⊢
   rw [List.flatMap_cons]
   cases i with
   | zero=>
     simp only [List.getElem?_cons_zero,Option.some.injEq] at h
     subst h
     rw [Nat.zero_mul,List.drop_zero,← hl,List.take_left]
   | succ i=>
     rw [List.getElem?_cons_succ] at h
     rw [show (i+1)*13=d.cs.length+i*13 by rw [hl];omega,List.drop_append]
     have e1:d.cs.drop (d.cs.length+i*13) = []:=List.drop_eq_nil_of_le (by omega)
     rw [e1,List.nil_append,Nat.add_sub_cancel_left]
     exact ih h
theorem TileAt.of {T:List TC} {p:Nat} {σ:ASt} (hl:T.length=32) (h:σ p=some (.obj (tileCs T))):TileAt T p σ:=by
 refine ⟨hl,⟨_,h⟩,fun i c hc=>?_⟩
 obtain ⟨hi,_⟩:=List.getElem?_eq_some_iff.1 hc
 have hn:=tileCs_len T
 rw [h]
 show (if i*13+13<=(tileCs T).length then some (AV.agg (((tileCs T).drop (i*13)).take 13)) else none)=_
 rw [if_pos (by omega),tileCs_at hc,TC.av_cs]
def zTC:TC:=⟨zNd,none⟩
def oneTC:TC:=⟨zNd,some (.num 10000)⟩
def oneT:List TC:=List.replicate 5 zTC ++ [oneTC]++List.replicate 26 zTC
def z416:List AV:=(List.replicate 32 (zCells .nili)).flatten
theorem z416_len:z416.length=416:=by decide +kernel
theorem soft416:deeps (z416.take 65++oneTC.cs++z416.drop 78)=tileCs oneT:=by rfl
theorem oneT_len:oneT.length=32:=by decide
theorem oneT_fine:∀ c∈oneT,c.wfine:=by
 intro c hc
 have h:c=zTC\/c=oneTC:=by
  unfold oneT at hc
  simp only [List.mem_append,List.mem_replicate,List.mem_singleton] at hc
  rcases hc with (⟨_,h⟩|h)|⟨_,h⟩
  ·exact .inl h
  ·exact .inr h
  ·exact .inl h
 rcases h with rfl|rfl
 ·exact ⟨fun h=>(by cases h),fun h=>(by cases h),trivial,fun t h=>(by cases h)⟩
 ·exact ⟨fun h=>(by cases h),fun h=>(by cases h),(show (10000:Int).natAbs<=999999999999999999 by decide),fun t h=>(by cases h)⟩
theorem oneT_count:countT oneT=1:=by decide
theorem oneT_full:fullN oneT 32 = [5]:=by decide
theorem oneT_bytes:tileB oneT 3 = [3,1,5,1,1,160,156,1]:=by
 have e:tileB oneT 3=uintB 3++risingB (natsI (fullN oneT 32))++spB oneT (fullN oneT 32):=if_pos rfl
 have b1:uintB 1 = [1]:=by rw [uintB_small (by decide)];rfl
 have b3:uintB 3 = [3]:=by rw [uintB_small (by decide)];rfl
 have b5:uintB 5 = [5]:=by rw [uintB_small (by decide)];rfl
 have bn:uintB 20000 = [160,156,1]:=by
  rw [uintB_big (by decide),uintB_big (by decide),uintB_small (by decide)]
  rfl
 have r:risingB (natsI [5])=uintB 1++uintB 5:=by
  have:risingB (natsI [5])=uintB 1++(uintB 5 ++ []):=rfl
  rw [this,List.append_nil]
 have s:spB oneT [5]=uintB 1++(uintB 1++uintB 20000):=by
  have:spB oneT [5]=(uintB 1++(uintB 1++uintB 20000)) ++ []:=rfl
  rw [this,List.append_nil]
 rw [e,oneT_full,r,s,b1,b3,b5,bn]
 rfl
theorem oneT_text:oneTC.text = [49]:=by decide +kernel
theorem one_fine:oneTC.fine:=⟨fun h=>(by cases h),fun h=>(by cases h),(show (10000:Int).natAbs<=999999999999999999 by decide),trivial,by decide +kernel⟩
theorem av20:ofP ⟨1,10000,[]⟩ = .num 10000:=by decide +kernel
theorem aw20_c1:c10_1 = .ops [⟨some 2,none,.q (.build z416 []),[]⟩,⟨some 3,none,.e (.box (.t 2)),[]⟩,⟨some 1,none,.q (.mv (.t 3)),[]⟩]:=by rfl
theorem tlawake_ok {σ:ASt} (hT:Tab σ) (hM:MaxL σ) (hU:U8 σ):ACalls Tryz.prog 10 [] σ fun v σ'=>v = .bool true/\σ'=σ:=by
 have hO:=fun (τ:ASt) (h:U8 τ)=>of_ok h ⟨1,10000,[]⟩ (by decide)
 rw [av20] at hO
 unfold plAV at hO
 dsimp only at hO
 have hP:=tplain_ok (.num 10000)
 have hPe:TC.av ⟨zNd,some (.num 10000)⟩ = .agg oneTC.cs:=rfl
 rw [hPe] at hP
 have hX:=fun (τ:ASt) (h:Tab τ) (h2:MaxL τ)=>tcText_ok h h2 oneTC one_fine
 rw [oneT_text,TC.av_cs] at hX
 have hW:=fun (τ:ASt) (p:Nat) (h:TileAt oneT p τ)=>twrite_ok h oneT_fine 3 (by decide)
 rw [oneT_bytes] at hW
 have hC:=fun (τ:ASt) (p:Nat) (h:TileAt oneT p τ)=>tcount_ok h
 rw [oneT_count] at hC
 have hC:∀ (τ:ASt) (p:Nat),TileAt oneT p τ->ACalls Tryz.prog 14 [.ptr p 0] τ fun v σ'=>v = .int .i64 1/\σ'=τ:=hC
 have hlv:leaves oneTC.cs=true:=by rfl
 have hL:=fun (τ:ASt) (p:Nat) (h:TileAt oneT p τ)=>tlayout_ok h 0
 have hL0:layT oneT 0=3:=by decide
 rw [hL0] at hL
 have hl1:=TC.cs_len oneTC
 have hl2:=z416_len
 have hs:=soft416
 have hld:∀ (τ:ASt) (p:Nat),TileAt oneT p τ->objC 65 (some 13) (kn (τ p))=some (.agg oneTC.cs):=fun τ p h=>h.cell 5 oneTC rfl
 generalize hOC:oneTC.cs=OC at *
 generalize hPV:(PV.num 10000).av=va at *
 refine a10 (by simp) ?_
 rw [c10_7.eq_1,c10_6.eq_1,aw20_c1]
 generalize z416=Z at *
 simp (disch:=first|assumption|omega) only [go_sem]
 refine boxC_by rfl fun c1 h1=>?_
 simp (disch:=first|assumption|omega) only [go_sem]
 refine (hO _ (U8.set hU h1)).mono ?_
 rintro v σ1 ⟨rfl,rfl⟩
 simp (disch:=first|assumption|omega) only [go_sem]
 refine hP.use ?_
 simp (disch:=first|assumption|omega) only [go_sem,hl1,hl2]
 refine ⟨hlv,?_⟩
 have hd:=SDrop.soft (σ:=σ.set c1 (some (.obj (Z.take 65++OC++Z.drop 78)))) (b:=c1) (ASt.set_same _ _ _)
 rw [ASt.set_set,hs] at hd
 have hTA:=TileAt.of (σ:=σ.set c1 (some (.obj (tileCs oneT)))) oneT_len (ASt.set_same _ _ _)
 have T2:=Tab.set (r:=some (.obj (tileCs oneT))) hT h1
 have M2:=MaxL.set (r:=some (.obj (tileCs oneT))) hM h1
 have dd:=Drop.set (r:=some (.obj (tileCs oneT))) h1
 refine ACalls.soft hd ?_
 clear hd
 generalize σ.set c1 (some (.obj (tileCs oneT)))=σ2 at *
 have hld:=hld _ _ hTA
 refine (hW _ _ hTA).mono ?_
 rintro r σ3 ⟨rfl,rfl⟩
 simp (disch:=first|assumption|omega) only [go_sem]
 refine (hC _ _ hTA).mono ?_
 rintro r σ3 ⟨rfl,rfl⟩
 simp (disch:=first|assumption|omega) only [go_sem]
 refine (hL _ _ hTA).mono ?_
 rintro r σ3 ⟨rfl,rfl⟩
 simp (disch:=first|assumption|omega) only [go_sem,hld]
 refine (hX _ T2 M2).mono ?_
 rintro r σ3 ⟨rfl,rfl⟩
 simp (disch:=first|assumption|omega) only [go_sem]
 exact retC_by dd (.refl _) ⟨rfl,rfl⟩
theorem typedP_le (p:Pl) (hp:p.s.length<=60):(typedP (ofP p)).length<=100000:=by
 have hg:=ofP_good p
 have ht:∀ t,ofP p = .text t->t.length<=60:=by
  intro t h
  unfold ofP at h
  repeat' split at h
  all_goals cases h
  exact hp
 generalize ofP p=v at *
 cases v with
 | text t=>
   have:=ht t rfl
   show (if inputP t = .text t then t else 39::t).length<=_
   split
   ·omega
   ·rw [List.length_cons];omega
 | num n=>
   have:=textD_len (a:=n) hg
   show (textD n).length<=_
   omega
 | blank=>decide
 | bool b=>cases b<;>decide
 | fail n=>
   have h1:1<=n/\n<=7:=hg
   have h2:n=1\/n=2\/n=3\/n=4\/n=5\/n=6\/n=7:=by omega
   rcases h2 with rfl|rfl|rfl|rfl|rfl|rfl|rfl<;>decide
theorem lcC_fine (F:List UInt8) (k n:Int) (S:List UInt8):(lcC F k n S).fine:=by
 have hz:zNd.op=0:=rfl
 refine ⟨?_,?_,ofP_good _,ofP_small _,typedP_le _ (by show (S.take 60).length<=60;rw [List.length_take];omega)⟩
 ·intro h
  show (lcT F).ok
  have h':(!decide ((lcT F).op=0))=true:=h
  unfold lcT at h' ⊢
  split
  ·rename_i he
   exact (parseR_gd he).1.1
  ·rename_i he
   rw [if_neg he,hz] at h'
   simp at h'
 ·intro h
  show (lcT F).spell.length<=_
  have h':(!decide ((lcT F).op=0))=true:=h
  unfold lcT at h' ⊢
  split
  ·rename_i he
   have h1:=nf_spell (parseR_nf he).1
   have h2:=(parseR_gd he).2
   omega
  ·rename_i he
   rw [if_neg he,hz] at h'
   simp at h'
end Go.A
namespace Go.A
open Go.Proofs
/-! 51: tabular/tabularref12.Same -/
/-! 78: tabular/tabularlaw12.Told -/
def c78_12:ACode := .seq (.ops [ oq 21 (.bin .lss (.t 20) (.t 19))]) (.seq (.cond (.t 21) .skip (.exit 0)) (.seq (.block 1 (.seq (.ops [ oq 22 (.ia 12 (.t 18) (.t 20)),oq 23 (.ld (some 12) (.t 22)),oe 5 (.alloc [(.int .i64 0),(.int .i64 0),(.str []),(.int .i64 0),(.int .i64 0),(.bool false),(.bool false),(.int .i64 0),(.int .i64 0),(.bool false),(.bool false),(.sl .full [])]),oz (.store 12 (.t 5) (.t 23))]) (.ops [ oq 24 (.fa 11 (.t 3)),oq 25 (.ld none (.t 24)),oq 26 (.ld (some 12) (.t 5)),⟨some 27,none,.e (.call 78 [(.t 26)]),[⟨none,.ld none (.t 24),25⟩]⟩,oq 28 (.bsl 12 [(.t 27)]),oe 29 (.app 53 12 104 [(.int .i64 0),(.int .i64 0),(.str []),(.int .i64 0),(.int .i64 0),(.bool false),(.bool false),(.int .i64 0),(.int .i64 0),(.bool false),(.bool false),(.sl .full [])] (.t 25) (.t 28)),oq 30 (.fa 11 (.t 3)),oz (.store 1 (.t 30) (.t 29))]))) (.ops [ oq 31 (.bin .add (.t 20) (.v (.int .i64 1))),oq 20 (.mv (.t 31))])))
def c78_17:ACode := .seq (.ops [ oq 32 (.ld (some 12) (.t 3)),oz (.store 12 (.t 2) (.t 32))]) .ret
def c78_20:ACode := .seq (.ops [ oe 1 (.box (.t 0)),oe 2 (.alloc [(.int .i64 0),(.int .i64 0),(.str []),(.int .i64 0),(.int .i64 0),(.bool false),(.bool false),(.int .i64 0),(.int .i64 0),(.bool false),(.bool false),(.sl .full [])])]) (.seq (.ops [ oq 6 (.fa 0 (.t 1)),oq 7 (.ld none (.t 6)),oq 8 (.fa 1 (.t 1)),oq 9 (.ld none (.t 8)),oq 10 (.fa 2 (.t 1)),oq 11 (.ld none (.t 10)),oq 12 (.fa 3 (.t 1)),oq 13 (.ld (some 4) (.t 12)),oq 14 (.fa 7 (.t 1)),oq 15 (.ld (some 4) (.t 14)),oq 16 (.build [(.int .i64 0),(.int .i64 0),(.str []),(.int .i64 0),(.int .i64 0),(.bool false),(.bool false),(.int .i64 0),(.int .i64 0),(.bool false),(.bool false),(.sl .full [])] [(0,1,(.t 7)),(1,1,(.t 9)),(2,1,(.t 11)),(3,4,(.t 13)),(7,4,(.t 15))]),oe 3 (.alloc [(.int .i64 0),(.int .i64 0),(.str []),(.int .i64 0),(.int .i64 0),(.bool false),(.bool false),(.int .i64 0),(.int .i64 0),(.bool false),(.bool false),(.sl .full [])]),oz (.store 12 (.t 3) (.t 16))]) (.seq (.seq (.ops [ oq 17 (.fa 11 (.t 1)),oq 18 (.ld none (.t 17)),oq 19 (.len (.t 18)),oq 20 (.mv (.v (.int .i64 0)))]) (.block 0 (.loop c78_12))) c78_17))
@[go_sem] def c78_12_wp:=wp_of c78_12.eq_1
@[go_sem] def c78_17_wp:=wp_of c78_17.eq_1
@[go_sem] def c78_20_wp:=wp_of c78_20.eq_1
def c78:AFn:=⟨33,[.c 2 (some 12)],c78_20⟩
theorem c78_ok:compF Tryz.prog Tryz.f78=some c78:=by kernel_rfl
theorem a78 {args:List AV} {σ:ASt} {R:AV->ASt->Prop} (hl:args.length<=33) (h:c78_20.wp Tryz.prog (RetQ [.c 2 (some 12)] R) (init args) σ):ACalls Tryz.prog 78 args σ R:=acalls_of Tryz.func78 c78_ok hl h
end Go.A
namespace Go.A
open Go.Proofs Go.Lib
theorem told_le:∀ (k:Nat) (n:Nd),n.size<=k->n.size<=1000000000->Pure Tryz.prog 78 [n.av] n.av
 | 0,n,hk,_=>by have:=n.size_pos;omega
 | k+1,n,hk,hbig=>by
   intro σ
   have ih:=told_le k
   obtain ⟨o,m,s,a,b,ks⟩:=n
   rw [Nd.size] at hk hbig
   have hlen:=sizes_len ks
   have hkid:∀ x∈ks,Pure Tryz.prog 78 [x.av] x.av:=fun x hx=>by
    have:=Nd.size_kid hx
    exact ih x (by omega) (by omega)
   clear ih
   rw [Nd.av_cs]
   refine a78 (by simp) ?_
   simp (disch:=first|assumption|omega) only [go_sem]
   refine boxC_by rfl fun c1 h1=>?_
   simp (disch:=first|assumption|omega) only [go_sem]
   refine allocC_by fun c2 h2=>?_
   have h2':=h2
   repeat (with_reducible replace h2:=set_none h2;obtain ⟨_,_,h2⟩:=h2)
   simp (disch:=first|assumption|omega) only [go_sem]
   refine allocC_by fun c3 h3=>?_
   have h3':=h3
   repeat (with_reducible replace h3:=set_none h3;obtain ⟨_,_,h3⟩:=h3)
   obtain ⟨τ,hτ⟩:∃ τ,(σ.set c1 (some (.obj (Nd.cs o m s a b (ks.map Nd.av))))).set c2 (some (.obj zero12))=τ:=⟨_,rfl⟩
   have hτ3:τ c3=none:=by rw [<-hτ];exact h3'
   have hτ2:τ c2=some (.obj zero12):=by rw [<-hτ,ASt.set_same]
   have hDτ:∀ X R:Option Role,Drop (((τ.set c3 R).set c2 X)) σ:=fun X R=>by
    rw [<-hτ]
    exact ((((Drop.set h1).off h2).off (by assumption)).off h2)
   have hz12:zero12 = [.int .i64 0,.int .i64 0,.str [],.int .i64 0,.int .i64 0,.bool false,.bool false,.int .i64 0,.int .i64 0,.bool false,.bool false,.sl .full []]:=rfl
   rw [hz12] at hτ
   have n23:c2≠c3:=by rintro rfl;rw [hτ2] at hτ3;cases hτ3
   simp (disch:=first|assumption|omega) only [go_sem,ASt.set_set]
   rw [hτ]
   obtain ⟨G,hG⟩:∃ G,G=ACode.wp Tryz.prog c78_17:=⟨_,rfl⟩
   simp (disch:=first|assumption|omega) only [go_sem,←hG]
   refine wp_loop_by (fun (i:Nat) a1 s2=>i<=ks.length/\(a1 2 = .ptr c2 0/\a1 3 = .ptr c3 0/\a1 18 = .sl .shr (ks.map Nd.av)/\a1 19 = .int .i64 ks.length/\a1 20 = .int .i64 i) ∧
    ∃ v,OwnSl (τ.set c3 (some (.obj (ndV o m s a b v)))) s2 v ((ks.take i).map Nd.av) 12) (fun i=>ks.length-i) 0 (Dr.now ⟨Nat.zero_le _,?_,.sl .full [],.inl ⟨rfl,rfl,rfl⟩⟩) ?_
   ·simp (disch:=first|assumption|omega) only [go_sem]
   rintro i a1 s2 ⟨hi,hf,v,hO⟩
   have hb7:=hO.at (x:=c3) (ASt.set_same _ _ _)
   by_cases hlt:i<ks.length
   ·have hlt':(i:Int)<ks.length:=by omega
    have hx : ks[i]? = some (ks[i]'hlt) := List.getElem?_eq_getElem hlt
    obtain ⟨x, hxe⟩ : ∃ x, ks[i]'hlt = x := ⟨_, rfl⟩
    have hcall:=hkid x (by rw [<-hxe];exact List.getElem_mem _)
    have htake:(ks.take (i+1)).map Nd.av=(ks.take i).map Nd.av ++ [x.av]:=by rw [List.take_succ_eq_append_getElem hlt,hxe];simp
    rw [hxe] at hx
    have hmx:=Nd.get hx
    have hDm:((ks.take i).map Nd.av).length=i:=by simp;omega
    have hlD:∀ y∈(ks.take i).map Nd.av,y.cells.length=12:=by
     intro y hy
     obtain ⟨z,_,rfl⟩:=List.mem_map.1 hy
     exact Nd.av_len z
    obtain ⟨xo,xm,xs,xa,xb,xk⟩:=x
    rw [Nd.av_cs] at hcall htake hmx
    generalize hXK:xk.map Nd.av=XK at *
    generalize (ks.take i).map Nd.av=DL at *
    generalize ks.map Nd.av=L at *
    simp (disch:=first|assumption|omega) only [go_sem,hf,hlt',hmx]
    refine allocC_by fun e he=>?_
    have he7:c3≠e:=by rintro rfl;rw [hb7] at he;cases he
    have he0:τ e=none:=by
     have:=hO.fresh he
     rw [ASt.set_ne (Ne.symm he7)] at this
     exact this
    have hOe:=hO.add (r:=some (.obj (Nd.cs xo xm xs xa xb XK))) he
    have hb7e:(s2.set e (some (.obj (Nd.cs xo xm xs xa xb XK)))) c3=some (.obj (ndV o m s a b v)):=by rw [ASt.set_ne he7];exact hb7
    simp (disch:=first|assumption|omega) only [go_sem,hf,hb7e,ASt.set_set]
    refine hcall.use ?_
    simp (disch:=first|assumption|omega) only [go_sem,hb7e]
    refine OwnSl.app hOe hlD rfl rfl (by rw [hDm];simp only [List.length_cons,List.length_nil];omega) (by rw [hDm];simp only [List.length_cons,List.length_nil];omega) (by simp) fun v' σ' ⟨σ2,hd,hO2⟩=>?_
    have h70:((τ.set c3 (some (.obj (ndV o m s a b v)))).set e (some (.obj (Nd.cs xo xm xs xa xb XK)))) c3=some (.obj (ndV o m s a b v)):=by rw [ASt.set_ne he7,ASt.set_same]
    have hb7':=hd.had (hO2.at h70)
    have hO3:=hO2.put h70 (some (.obj (ndV o m s a b v')))
    rw [set_mid he7] at hO3
    obtain ⟨σ5,hd5,hO5⟩:=hO3.less (by rw [ASt.set_ne (Ne.symm he7)];exact he0)
    have hvl:=hO2.leaf
    have hvc:=hvl.2
    have hvv:leaves [v']=true:=by rw [leaf1];exact hvl.1
    have hD5:Drop (σ'.set c3 (some (.obj (ndV o m s a b v')))) σ5:=hd.set_cong.trans hd5
    simp (disch:=first|assumption|omega) only [go_sem,hf,hb7',hvc,hvv]
    refine ⟨i+1,by dsimp only;omega,Dr.drop hD5 ⟨by omega,?_,v',?_⟩⟩
    ·simp (disch:=first|assumption|omega) only [go_sem,hf]
    ·rw [htake];exact hO5
   ·have hlt':¬ (i:Int)<ks.length:=by omega
    rw [List.take_of_length_le (by omega)] at hO
    have hb2:=hO.at (x:=c2) (r := .obj zero12) (by rw [ASt.set_ne n23];exact hτ2)
    have hxl:∀ x∈ks.map Nd.av,x.cells.length=12:=by
     intro y hy
     obtain ⟨z,_,rfl⟩:=List.mem_map.1 hy
     exact Nd.av_len z
    have hnl:=nv_leaves (o:=o) (m:=m) (s:=s) (a:=a) (b:=b) hO.leaf.1
    have hO2:=hO.put (by rw [ASt.set_ne n23];exact hτ2) (some (.obj (ndV o m s a b v)))
    have hDz:=hDτ (some (.obj (ndV o m s a b v))) (some (.obj (ndV o m s a b v)))
    have hz:=hO2.fz hxl (fun x hx=>hDz.nil hx)
    unfold zero12 at hb2
    generalize ks.map Nd.av=L at *
    simp (disch:=first|assumption|omega) only [go_sem,hf,hlt']
    rw [hG]
    simp (disch:=first|assumption|omega) only [go_sem,hf,hb7,hb2,hnl]
    refine retC_by (r := .agg (ndV o m s a b (.sl .shr L))) (hO2.drop.trans hDz) ?_ ⟨rfl,rfl⟩
    exact .agg (.cons (.refl _) (.cons (.refl _) (.cons (.refl _) (.cons (.refl _) (.cons (.refl _) (.cons (.refl _) (.cons (.refl _) (.cons (.refl _) (.cons (.refl _) (.cons (.refl _) (.cons (.refl _) (.cons hz .nil))))))))))))
theorem told_ok (n:Nd) (h:n.size<=1000000000):Pure Tryz.prog 78 [n.av] n.av:=told_le n.size n (Nat.le_refl _) h
end Go.A
namespace Go.A
open Go.Proofs
/-! 19: tabular/tabularref20.Empty -/
/-! 37: tabular/tabularlaw20.Told -/
def c37_3:ACode := .seq (.ops [ oe 1 (.box (.t 0)),oe 2 (.alloc [(.int .i64 0),(.int .i64 0),(.str []),(.int .i64 0),(.int .i64 0),(.bool false),(.bool false),(.int .i64 0),(.int .i64 0),(.bool false),(.bool false),(.sl .full []),(.int .i64 0),(.int .i64 0),(.str [])])]) (.seq (.ops [ oq 3 (.fa 0 (.t 1)),oq 4 (.ld (some 12) (.t 3)),oq 6 (.ld (some 13) (.t 1)),⟨some 5,none,.e (.call 78 [(.t 4)]),[⟨none,.ld (some 13) (.t 1),6⟩]⟩,oe 7 (.call 31 [(.t 6)]),oe 8 (.call 79 [(.t 7)]),oq 9 (.build [(.int .i64 0),(.int .i64 0),(.str []),(.int .i64 0),(.int .i64 0),(.bool false),(.bool false),(.int .i64 0),(.int .i64 0),(.bool false),(.bool false),(.sl .full []),(.int .i64 0),(.int .i64 0),(.str [])] [(0,12,(.t 5)),(12,3,(.t 8))]),oz (.store 15 (.t 2) (.t 9))]) .ret)
@[go_sem] def c37_3_wp:=wp_of c37_3.eq_1
def c37:AFn:=⟨10,[.c 2 (some 15)],c37_3⟩
theorem c37_ok:compF Tryz.prog Tryz.f37=some c37:=by kernel_rfl
theorem a37 {args:List AV} {σ:ASt} {R:AV->ASt->Prop} (hl:args.length<=10) (h:c37_3.wp Tryz.prog (RetQ [.c 2 (some 15)] R) (init args) σ):ACalls Tryz.prog 37 args σ R:=acalls_of Tryz.func37 c37_ok hl h
end Go.A
namespace Go.A
open Go.Proofs Go.Lib Go.Vint
def rCs (op n:Int) (s:List UInt8) (a b:Ref) (L:List AV) (k y:Int) (z:List UInt8):List AV := [.int .i64 op,.int .i64 n,.str s,.int .i64 a.row,.int .i64 a.col,.bool a.absRow,.bool a.absCol,.int .i64 b.row,.int .i64 b.col,.bool b.absRow,.bool b.absCol,.sl .shr L,.int .i64 k,.int .i64 y,.str z]
def TC.rav:TC->AV
 | ⟨.mk op n s a b ks,v⟩ => .agg (rCs op n s a b (ks.map Nd.av) (plOf (v.getD .blank)).kind (plOf (v.getD .blank)).n (plOf (v.getD .blank)).s)
theorem ltold_ok (c:TC) (h:c.t.size<=1000000000):Pure Tryz.prog 37 [c.av] c.rav:=by
 intro σ
 have hV:=tcValue_ok c
 have hX:=vtold_ok c.val
 rw [tell_pl] at hX
 have hT:=told_ok c.t h
 have hr:c.rav = .agg (rCs c.t.op (match c.t with | .mk _ n _ _ _ _=>n) (match c.t with | .mk _ _ s _ _ _=>s) (match c.t with | .mk _ _ _ a _ _=>a) (match c.t with | .mk _ _ _ _ b _=>b) (c.t.kids.map Nd.av) (plOf c.val).kind (plOf c.val).n (plOf c.val).s):=by
  obtain ⟨⟨op,n,s,a,b,ks⟩,v⟩:=c
  rfl
 rw [hr]
 clear hr h
 generalize plOf c.val=pl at *
 generalize c.val.av=va at *
 obtain ⟨⟨op,n,s,a,b,ks⟩,v⟩:=c
 dsimp only at hT ⊢
 rw [TC.av] at *
 rw [Nd.av_cs] at hT
 have e1:(Nd.mk op n s a b ks).op=op:=rfl
 have e2:(Nd.mk op n s a b ks).kids=ks:=rfl
 rw [e1,e2]
 generalize ks.map Nd.av=L at *
 generalize voAV v=x at *
 obtain ⟨k,y,z⟩:=pl
 unfold plAV at hX
 dsimp only at hX ⊢
 unfold cellCs at *
 unfold Nd.cs at hT
 unfold rCs
 refine a37 (by simp) ?_
 simp (disch:=first|assumption|omega) only [go_sem]
 refine boxC_by rfl fun c1 h1=>?_
 simp (disch:=first|assumption|omega) only [go_sem]
 refine allocC_by fun c2 h2=>?_
 obtain ⟨n1,n2,h2'⟩:=set_none h2
 simp (disch:=first|assumption|omega) only [go_sem]
 refine hT.use ?_
 simp (disch:=first|assumption|omega) only [go_sem]
 refine hV.use ?_
 simp (disch:=first|assumption|omega) only [go_sem]
 refine hX.use ?_
 simp (disch:=first|assumption|omega) only [go_sem]
 exact retC_by (by repeat' (first|exact Drop.refl _|with_reducible refine Drop.off ?_ (by assumption))) (.refl _) ⟨rfl,rfl⟩
end Go.A
namespace Go.A
open Go.Proofs
/-! 15: tabular/tabularref20.Count -/
/-! 17: tabular/tabularref20.Layout -/
end Go.A
namespace Go.A
open Go.Proofs
/-! 45: tabular/tabularref02.Uint -/
/-! 48: tabular/tabularref02.Rising -/
/-! 143: tabular/tabularref02.Fold -/
/-! 144: tabular/tabularref02.Text -/
end Go.A
namespace Go.A
open Go.Proofs
/-! 90: tabular/tabularref12.Write -/
/-! 145: tabular/tabularref12.ref -/
end Go.A
namespace Go.A
open Go.Proofs
/-! 47: tabular/tabularref20.put -/
/-! 91: tabular/tabularref15.Put -/
end Go.A
namespace Go.A
open Go.Proofs
/-! 21: tabular/tabularref20.Write -/
/-! 46: tabular/tabularref20.order -/
end Go.A
namespace Go.A
open Go.Proofs
/-! 133: tabular/tabularref10.Letters -/
/-! 138: tabular/tabularref10.Great -/
/-! 182: tabular/tabularref10.Next -/
end Go.A
namespace Go.A
open Go.Proofs
/-! 131: tabular/tabularref01.Digits -/
end Go.A
namespace Go.A
open Go.Proofs
/-! 83: tabular/tabularref10.Text -/
end Go.A
namespace Go.A
open Go.Proofs
abbrev RT (σ:ASt):APost:=RetQ [.t 8] fun v σ'=>v = .bool true/\σ'=σ
end Go.A
namespace Go.A
open Go.Proofs
/-! 80: tabular/tabularref01.Text -/
/-! 132: tabular/tabularref01.Size -/
/-! 136: tabular/tabularref01.Parse -/
/-! 183: tabular/tabularref01.Value -/
/-! 184: tabular/tabularref01.Strip -/
end Go.A
namespace Go.A
open Go.Proofs
/-! 38: tabular/tabularref12.Print -/
/-! 81: tabular/tabularref11.Quote -/
/-! 82: tabular/tabularref11.Errors -/
/-! 84: tabular/tabularref12.inside -/
/-! 85: tabular/tabularref12.Level -/
end Go.A
namespace Go.A
open Go.Proofs
/-! 88: tabular/tabularref15.Show -/
/-! 141: tabular/tabularref15.AsText -/
end Go.A
namespace Go.A
open Go.Proofs
/-! 18: tabular/tabularref20.Text -/
/-! 39: tabular/tabularref15.Typed -/
/-! 87: tabular/tabularref15.Input -/
/-! 135: tabular/tabularref15.Trim -/
end Go.A
namespace Go.A
open Go.Proofs
/-! 13: tabular/tabularlaw20.Grow -/
def c13_1:ACode := .ops [ oq 8 (.build [(.int .i64 0),(.int .i64 0),(.str []),(.int .i64 0),(.int .i64 0),(.bool false),(.bool false),(.int .i64 0),(.int .i64 0),(.bool false),(.bool false),(.sl .full []),.nili,(.int .i64 0),(.int .i64 0),(.str []),(.int .i64 0),(.int .i64 0),(.bool false),(.bool false),(.int .i64 0),(.int .i64 0),(.bool false),(.bool false),(.sl .full []),.nili,(.int .i64 0),(.int .i64 0),(.str []),(.int .i64 0),(.int .i64 0),(.bool false),(.bool false),(.int .i64 0),(.int .i64 0),(.bool false),(.bool false),(.sl .full []),.nili,(.int .i64 0),(.int .i64 0),(.str []),(.int .i64 0),(.int .i64 0),(.bool false),(.bool false),(.int .i64 0),(.int .i64 0),(.bool false),(.bool false),(.sl .full []),.nili,(.int .i64 0),(.int .i64 0),(.str []),(.int .i64 0),(.int .i64 0),(.bool false),(.bool false),(.int .i64 0),(.int .i64 0),(.bool false),(.bool false),(.sl .full []),.nili,(.int .i64 0),(.int .i64 0),(.str []),(.int .i64 0),(.int .i64 0),(.bool false),(.bool false),(.int .i64 0),(.int .i64 0),(.bool false),(.bool false),(.sl .full []),.nili,(.int .i64 0),(.int .i64 0),(.str []),(.int .i64 0),(.int .i64 0),(.bool false),(.bool false),(.int .i64 0),(.int .i64 0),(.bool false),(.bool false),(.sl .full []),.nili,(.int .i64 0),(.int .i64 0),(.str []),(.int .i64 0),(.int .i64 0),(.bool false),(.bool false),(.int .i64 0),(.int .i64 0),(.bool false),(.bool false),(.sl .full []),.nili,(.int .i64 0),(.int .i64 0),(.str []),(.int .i64 0),(.int .i64 0),(.bool false),(.bool false),(.int .i64 0),(.int .i64 0),(.bool false),(.bool false),(.sl .full []),.nili,(.int .i64 0),(.int .i64 0),(.str []),(.int .i64 0),(.int .i64 0),(.bool false),(.bool false),(.int .i64 0),(.int .i64 0),(.bool false),(.bool false),(.sl .full []),.nili,(.int .i64 0),(.int .i64 0),(.str []),(.int .i64 0),(.int .i64 0),(.bool false),(.bool false),(.int .i64 0),(.int .i64 0),(.bool false),(.bool false),(.sl .full []),.nili,(.int .i64 0),(.int .i64 0),(.str []),(.int .i64 0),(.int .i64 0),(.bool false),(.bool false),(.int .i64 0),(.int .i64 0),(.bool false),(.bool false),(.sl .full []),.nili,(.int .i64 0),(.int .i64 0),(.str []),(.int .i64 0),(.int .i64 0),(.bool false),(.bool false),(.int .i64 0),(.int .i64 0),(.bool false),(.bool false),(.sl .full []),.nili,(.int .i64 0),(.int .i64 0),(.str []),(.int .i64 0),(.int .i64 0),(.bool false),(.bool false),(.int .i64 0),(.int .i64 0),(.bool false),(.bool false),(.sl .full []),.nili,(.int .i64 0),(.int .i64 0),(.str []),(.int .i64 0),(.int .i64 0),(.bool false),(.bool false),(.int .i64 0),(.int .i64 0),(.bool false),(.bool false),(.sl .full []),.nili,(.int .i64 0),(.int .i64 0),(.str []),(.int .i64 0),(.int .i64 0),(.bool false),(.bool false),(.int .i64 0),(.int .i64 0),(.bool false),(.bool false),(.sl .full []),.nili,(.int .i64 0),(.int .i64 0),(.str []),(.int .i64 0),(.int .i64 0),(.bool false),(.bool false),(.int .i64 0),(.int .i64 0),(.bool false),(.bool false),(.sl .full []),.nili,(.int .i64 0),(.int .i64 0),(.str []),(.int .i64 0),(.int .i64 0),(.bool false),(.bool false),(.int .i64 0),(.int .i64 0),(.bool false),(.bool false),(.sl .full []),.nili,(.int .i64 0),(.int .i64 0),(.str []),(.int .i64 0),(.int .i64 0),(.bool false),(.bool false),(.int .i64 0),(.int .i64 0),(.bool false),(.bool false),(.sl .full []),.nili,(.int .i64 0),(.int .i64 0),(.str []),(.int .i64 0),(.int .i64 0),(.bool false),(.bool false),(.int .i64 0),(.int .i64 0),(.bool false),(.bool false),(.sl .full []),.nili,(.int .i64 0),(.int .i64 0),(.str []),(.int .i64 0),(.int .i64 0),(.bool false),(.bool false),(.int .i64 0),(.int .i64 0),(.bool false),(.bool false),(.sl .full []),.nili,(.int .i64 0),(.int .i64 0),(.str []),(.int .i64 0),(.int .i64 0),(.bool false),(.bool false),(.int .i64 0),(.int .i64 0),(.bool false),(.bool false),(.sl .full []),.nili,(.int .i64 0),(.int .i64 0),(.str []),(.int .i64 0),(.int .i64 0),(.bool false),(.bool false),(.int .i64 0),(.int .i64 0),(.bool false),(.bool false),(.sl .full []),.nili,(.int .i64 0),(.int .i64 0),(.str []),(.int .i64 0),(.int .i64 0),(.bool false),(.bool false),(.int .i64 0),(.int .i64 0),(.bool false),(.bool false),(.sl .full []),.nili,(.int .i64 0),(.int .i64 0),(.str []),(.int .i64 0),(.int .i64 0),(.bool false),(.bool false),(.int .i64 0),(.int .i64 0),(.bool false),(.bool false),(.sl .full []),.nili,(.int .i64 0),(.int .i64 0),(.str []),(.int .i64 0),(.int .i64 0),(.bool false),(.bool false),(.int .i64 0),(.int .i64 0),(.bool false),(.bool false),(.sl .full []),.nili,(.int .i64 0),(.int .i64 0),(.str []),(.int .i64 0),(.int .i64 0),(.bool false),(.bool false),(.int .i64 0),(.int .i64 0),(.bool false),(.bool false),(.sl .full []),.nili,(.int .i64 0),(.int .i64 0),(.str []),(.int .i64 0),(.int .i64 0),(.bool false),(.bool false),(.int .i64 0),(.int .i64 0),(.bool false),(.bool false),(.sl .full []),.nili,(.int .i64 0),(.int .i64 0),(.str []),(.int .i64 0),(.int .i64 0),(.bool false),(.bool false),(.int .i64 0),(.int .i64 0),(.bool false),(.bool false),(.sl .full []),.nili,(.int .i64 0),(.int .i64 0),(.str []),(.int .i64 0),(.int .i64 0),(.bool false),(.bool false),(.int .i64 0),(.int .i64 0),(.bool false),(.bool false),(.sl .full []),.nili,(.int .i64 0),(.int .i64 0),(.str []),(.int .i64 0),(.int .i64 0),(.bool false),(.bool false),(.int .i64 0),(.int .i64 0),(.bool false),(.bool false),(.sl .full []),.nili,(.int .i64 0),(.int .i64 0),(.str []),(.int .i64 0),(.int .i64 0),(.bool false),(.bool false),(.int .i64 0),(.int .i64 0),(.bool false),(.bool false),(.sl .full []),.nili] []),oe 9 (.box (.t 8)),oq 4 (.mv (.t 9))]
def c13_15:ACode := .seq (.seq (.ops [ oq 11 (.mv (.t 6)),oq 12 (.mv (.t 0)),oq 13 (.len (.t 12)),oq 14 (.bin .lss (.t 11) (.t 13)),oq 15 (.mv (.t 14)),⟨some 16,some (15,true),.q (.mv (.t 6)),[]⟩,⟨some 17,some (15,true),.q (.bin .lss (.t 16) (.v (.int .i64 40))),[]⟩,oq 18 (.pick (.t 15) (.t 17) (.v (.bool false)))]) (.cond (.t 18) .skip (.exit 0))) (.seq (.block 1 (.seq (.ops [ oq 21 (.mv (.t 0)),oq 22 (.mv (.t 6)),oq 23 (.ia 5 (.t 21) (.t 22)),oq 24 (.fa 0 (.t 23)),oq 25 (.ld none (.t 24)),oq 26 (.bin .rem (.t 25) (.v (.int .i64 32))),oq 27 (.bin .add (.t 26) (.v (.int .i64 32))),oq 28 (.bin .rem (.t 27) (.v (.int .i64 32))),oq 7 (.mv (.t 28))]) (.seq (.ops [ oq 29 (.mv (.t 4)),oq 30 (.mv (.t 7)),oq 31 (.mv (.t 0)),oq 32 (.mv (.t 6)),oq 33 (.ia 5 (.t 31) (.t 32)),oq 34 (.ld (some 5) (.t 33)),oq 36 (.nc (.t 29)),oe 35 (.call 8 [(.t 34)]),oq 37 (.iaa 32 13 (.t 36) (.t 30)),oz (.store 13 (.t 37) (.t 35))]) (.ops [ oq 38 (.mv (.t 5)),oq 39 (.mv (.t 7)),oq 40 (.mv (.t 4)),oq 41 (.mv (.t 7)),oq 42 (.nc (.t 40)),oq 43 (.iaa 32 13 (.t 42) (.t 41)),oq 44 (.ld (some 13) (.t 43)),oe 45 (.call 37 [(.t 44)]),oq 46 (.ia 15 (.t 38) (.t 39)),oz (.store 15 (.t 46) (.t 45))])))) (.ops [ oq 19 (.mv (.t 6)),oq 20 (.bin .add (.t 19) (.v (.int .i64 1))),oq 6 (.mv (.t 20))]))
def c13_23:ACode := .seq c13_1 (.seq (.ops [ oe 10 (.mkb 57 136 [(.int .i64 0),(.int .i64 0),(.str []),(.int .i64 0),(.int .i64 0),(.bool false),(.bool false),(.int .i64 0),(.int .i64 0),(.bool false),(.bool false),(.sl .full []),(.int .i64 0),(.int .i64 0),(.str [])] (.v (.int .i64 32)) (.v (.int .i64 32))),oq 5 (.mv (.t 10))]) (.seq (.seq (.ops [ oq 6 (.mv (.v (.int .i64 0)))]) (.block 0 (.loop c13_15))) (.seq (.ops [ oq 47 (.mv (.t 4)),oq 48 (.mv (.t 5)),oq 2 (.mv (.t 47)),oq 3 (.mv (.t 48))]) .ret)))
def c13_24:ACode := .seq (.ops [ oq 2 (.mv (.v .nilp)),oq 3 (.mv (.v (.sl .full [])))]) c13_23
@[go_sem] def c13_15_wp:=wp_of c13_15.eq_1
def c13:AFn:=⟨49,[.t 2,.t 3],c13_24⟩
theorem c13_ok:compF Tryz.prog Tryz.f13=some c13:=by kernel_rfl
theorem a13 {args:List AV} {σ:ASt} {R:AV->ASt->Prop} (hl:args.length<=49) (h:c13_24.wp Tryz.prog (RetQ [.t 2,.t 3] R) (init args) σ):ACalls Tryz.prog 13 args σ R:=acalls_of Tryz.func13 c13_ok hl h
/-! 22: tabular/tile.Same -/
def c22_3:ACode := .seq (.ops [ oe 2 (.box (.t 0)),oe 3 (.box (.t 1)),oq 4 (.mv (.v (.bool false)))]) (.seq (.ops [ oq 5 (.fa 0 (.t 2)),oq 6 (.ld (some 12) (.t 5)),oq 7 (.fa 0 (.t 3)),oq 8 (.ld (some 12) (.t 7)),oe 9 (.call 49 [(.t 6),(.t 8)]),oq 10 (.mv (.t 9)),⟨some 11,some (10,true),.q (.ld (some 13) (.t 2)),[]⟩,⟨some 14,some (10,true),.q (.ld (some 13) (.t 3)),[]⟩,⟨some 12,some (10,true),.e (.call 31 [(.t 11)]),[⟨(some (10,true)),.ld (some 13) (.t 3),14⟩]⟩,⟨some 13,some (10,true),.e (.call 50 [(.t 12)]),[⟨(some (10,true)),.ld (some 13) (.t 3),14⟩]⟩,⟨some 15,some (10,true),.e (.call 31 [(.t 14)]),[]⟩,⟨some 16,some (10,true),.e (.call 50 [(.t 15)]),[]⟩,⟨some 17,some (10,true),.q (.eqs false [(0,0),(1,0),(2,2)] (.t 13) (.t 16)),[]⟩,oq 18 (.pick (.t 10) (.t 17) (.v (.bool false))),oq 4 (.mv (.t 18))]) .ret)
@[go_sem] def c22_3_wp:=wp_of c22_3.eq_1
def c22:AFn:=⟨19,[.t 4],c22_3⟩
theorem c22_ok:compF Tryz.prog Tryz.f22=some c22:=by kernel_rfl
theorem a22 {args:List AV} {σ:ASt} {R:AV->ASt->Prop} (hl:args.length<=19) (h:c22_3.wp Tryz.prog (RetQ [.t 4] R) (init args) σ):ACalls Tryz.prog 22 args σ R:=acalls_of Tryz.func22 c22_ok hl h
/-! 23: tabular/tabularref20.Same -/
end Go.A
namespace Go.A
open Go.Proofs Go.Lib Go.Vint
def TC.same (c d:TC):Bool:=Nd.same c.t d.t && (decide ((plOf c.val).kind=(plOf d.val).kind) && (decide ((plOf c.val).n=(plOf d.val).n) && decide ((plOf c.val).s=(plOf d.val).s)))
theorem tilesame_ok (c d:TC) (hc:c.t.size<=1000000000) (hd:d.t.size<=1000000000):Pure Tryz.prog 22 [c.av,d.av] (.bool (TC.same c d)):=by
 intro σ
 have hS:=esame_ok c.t d.t hc hd
 have hV1:=tcValue_ok c
 have hV2:=tcValue_ok d
 have hT1:=tell_ok c.val
 have hT2:=tell_ok d.val
 rw [tell_pl] at hT1 hT2
 have hx:TC.same c d=(Nd.same c.t d.t && (decide ((plOf c.val).kind=(plOf d.val).kind) && (decide ((plOf c.val).n=(plOf d.val).n) && decide ((plOf c.val).s=(plOf d.val).s)))):=rfl
 rw [hx]
 clear hx hc hd
 generalize Nd.same c.t d.t=sm at *
 generalize plOf c.val=pk at *
 generalize plOf d.val=pd at *
 generalize c.val.av=va at *
 generalize d.val.av=vd at *
 obtain ⟨⟨op,n,s,a,b,ks⟩,v⟩:=c
 obtain ⟨⟨op2,n2,s2,a2,b2,ks2⟩,v2⟩:=d
 dsimp only at hS
 rw [TC.av] at hV1 hV2 ⊢
 rw [TC.av]
 rw [Nd.av_cs,Nd.av_cs] at hS
 generalize ks.map Nd.av=L at *
 generalize ks2.map Nd.av=L2 at *
 generalize voAV v=x1 at *
 generalize voAV v2=x2 at *
 obtain ⟨k,y,z⟩:=pk
 obtain ⟨k2,y2,z2⟩:=pd
 unfold plAV at hT1 hT2
 dsimp only at hT1 hT2 ⊢
 unfold Nd.cs at hS
 unfold cellCs at *
 refine a22 (by simp) ?_
 simp (disch:=first|assumption|omega) only [go_sem]
 refine boxC_by rfl fun c1 h1=>?_
 simp (disch:=first|assumption|omega) only [go_sem]
 refine boxC_by rfl fun c2 h2=>?_
 repeat (with_reducible replace h2:=set_none h2;obtain ⟨_,_,h2⟩:=h2)
 simp (disch:=first|assumption|omega) only [go_sem]
 refine hS.use ?_
 cases sm with
 | true=>
   simp (disch:=first|assumption|omega) only [go_sem]
   refine hV1.use ?_
   simp (disch:=first|assumption|omega) only [go_sem]
   refine hT1.use ?_
   simp (disch:=first|assumption|omega) only [go_sem]
   refine hV2.use ?_
   simp (disch:=first|assumption|omega) only [go_sem]
   refine hT2.use ?_
   simp (disch:=first|assumption|omega) only [go_sem]
   exact retC_by (by repeat' (first|exact Drop.refl _|with_reducible refine Drop.off ?_ (by assumption))) (.refl _) ⟨rfl,rfl⟩
 | false=>
   simp (disch:=first|assumption|omega) only [go_sem]
   exact retC_by (by repeat' (first|exact Drop.refl _|with_reducible refine Drop.off ?_ (by assumption))) (.refl _) ⟨rfl,rfl⟩
theorem flat_len {α:Type} {f:α->List AV} {s:Nat} (hf:∀ x,(f x).length=s) (T:List α):(T.flatMap f).length=T.length*s:=by
 induction T with
 | nil=>simp
 | cons c T ih=>rw [List.flatMap_cons,List.length_append,ih,hf,List.length_cons,Nat.succ_mul,Nat.add_comm]
theorem flat_set {α:Type} {f:α->List AV} {s:Nat} (hf:∀ x,(f x).length=s) (c:α):∀ (T:List α) (i:Nat),i<T.length->(T.flatMap f).take (i*s)++f c++(T.flatMap f).drop (i*s+s)=(T.set i c).flatMap f
 | [],i,h=>by simp at h
 | x::T,0,_=>by
   rw [List.set_cons_zero,List.flatMap_cons,List.flatMap_cons,Nat.zero_mul,List.take_zero,Nat.zero_add,List.nil_append]
   congr 1
   rw [<-hf x,List.drop_left]
 | x::T,i+1,h=>by
   have ih:=flat_set hf c T i (by simpa using h)
   have hx:=hf x
   rw [List.set_cons_succ,List.flatMap_cons,List.flatMap_cons,← ih,Nat.succ_mul]
   have e1:(f x++T.flatMap f).take (i*s+s)=f x++(T.flatMap f).take (i*s):=by
    rw [show i*s+s=(f x).length+i*s by rw [hx];omega,List.take_length_add_append]
   have e2:(f x++T.flatMap f).drop (i*s+s+s)=(T.flatMap f).drop (i*s+s):=by
    rw [show i*s+s+s=(f x).length+(i*s+s) by rw [hx];omega,List.drop_length_add_append]
   rw [e1,e2]
   simp only [List.append_assoc]
theorem flat_at {α:Type} {f:α->List AV} {s:Nat} (hf:∀ x,(f x).length=s):∀ (T:List α) (i:Nat) (c:α),T[i]? = some c->((T.flatMap f).drop (i*s)).take s=f c
 | [],i,c,h=>by simp at h
 | x::T,0,c,h=>by
   obtain rfl:=Option.some.inj h
   rw [List.flatMap_cons,Nat.zero_mul,List.drop_zero,← hf x,List.take_left]
 | x::T,i+1,c,h=>by
   have ih:=flat_at hf T i c (by simpa using h)
   rw [List.flatMap_cons,Nat.succ_mul,show i*s+s=(f x).length+i*s by rw [hf];omega,List.drop_length_add_append]
   exact ih
def TC.rcs (c:TC):List AV:=c.rav.cells
theorem TC.rav_rcs (c:TC):c.rav = .agg c.rcs:=by obtain ⟨⟨op,n,s,a,b,ks⟩,v⟩:=c;rfl
theorem TC.rcs_len (c:TC):c.rcs.length=15:=by obtain ⟨⟨op,n,s,a,b,ks⟩,v⟩:=c;rfl
theorem TC.rcs_leaf (c:TC):leaves c.rcs=true:=by obtain ⟨⟨op,n,s,a,b,ks⟩,v⟩:=c;rfl
theorem TC.cs_leaf (c:TC):leaves c.cs=true:=by
 obtain ⟨⟨op,n,s,a,b,ks⟩,v⟩:=c
 cases v with
 | none=>rfl
 | some v=>cases v<;>rfl
def rTile (T:List TC):List AV:=T.flatMap TC.rcs
structure Md where
 a:Int
 F:List UInt8
 k:Int
 n:Int
 S:List UInt8
def Md.av (m:Md):AV := .agg [.int .i64 m.a,.str m.F,.int .i64 m.k,.int .i64 m.n,.str m.S]
def Md.tc (m:Md):TC:=lcC m.F m.k m.n m.S
def atN (a:Int):Nat:=((a.tmod 32+32).tmod 32).toNat
theorem atN_eq (a:Int):(a.tmod 32+32).tmod 32=(atN a:Int):=by
 have h1 : -32<a.tmod 32:=Int.lt_tmod_of_pos a (by decide)
 have h2:0<=(a.tmod 32+32).tmod 32:=Int.tmod_nonneg _ (by omega)
 unfold atN
 omega
theorem atN_lt (a:Int):atN a<32:=by
 have h:=atN_eq a
 have h3:(a.tmod 32+32).tmod 32<32:=Int.tmod_lt_of_pos _ (by decide)
 omega
def grN (l:List Md) (i:Nat):List TC:=(l.take i).foldl (fun T m=>T.set (atN m.a) m.tc) (List.replicate 32 zTC)
def grT (l:List Md):List TC:=grN l 40
theorem grN_succ {l:List Md} {i:Nat} {m:Md} (h:l[i]? = some m):grN l (i+1)=(grN l i).set (atN m.a) m.tc:=by
 obtain ⟨hi,rfl⟩:=List.getElem?_eq_some_iff.1 h
 unfold grN
 rw [List.take_succ_eq_append_getElem hi,List.foldl_append]
 rfl
theorem grN_len (l:List Md) (i:Nat):(grN l i).length=32:=by
 unfold grN
 generalize l.take i=r
 suffices h:∀ T:List TC,T.length=32->(r.foldl (fun T m=>T.set (atN m.a) m.tc) T).length=32 from h _ List.length_replicate
 induction r with
 | nil=>intro T h;exact h
 | cons m r ih=>intro T h;exact ih _ (by rw [List.length_set];exact h)
theorem grN_all {P:TC->Prop} (h0:P zTC) (hP:∀ m:Md,P m.tc) (l:List Md) (i:Nat):∀ c∈grN l i,P c:=by
 unfold grN
 generalize l.take i=r
 suffices h:∀ T:List TC,(∀ c∈T,P c)->∀ c∈r.foldl (fun T m=>T.set (atN m.a) m.tc) T,P c from h _ fun c hc=>by rw [List.eq_of_mem_replicate hc];exact h0
 induction r with
 | nil=>intro T h;exact h
 | cons m r ih=>
   intro T h
   refine ih _ fun c hc=>?_
   rcases List.mem_or_eq_of_mem_set hc with h1|rfl
   ·exact h c h1
   ·exact hP m
theorem lcT_size (F:List UInt8):(lcT F).size<=5000:=by
 unfold lcT
 split
 ·rename_i he;exact (parseR_gd he).2
 ·decide
def z480:List AV:=(List.replicate 32 ([.int .i64 0,.int .i64 0,.str [],.int .i64 0,.int .i64 0,.bool false,.bool false,.int .i64 0,.int .i64 0,.bool false,.bool false,.sl .full [],.int .i64 0,.int .i64 0,.str []]:List AV)).flatten
theorem soft416z:deeps z416=tileCs (List.replicate 32 zTC):=by rfl
theorem soft480z:deeps z480=rTile (List.replicate 32 zTC):=by rfl
theorem grow_c1:c13_1 = .ops [⟨some 8,none,.q (.build z416 []),[]⟩,⟨some 9,none,.e (.box (.t 8)),[]⟩,⟨some 4,none,.q (.mv (.t 9)),[]⟩]:=by rfl
set_option maxHeartbeats 1000000 in
theorem lgrow_ok {σ:ASt} (hU:U8 σ) (hV:LV σ) (l:List Md):ACalls Tryz.prog 13 [.sl .shr (l.map Md.av)] σ fun v σ'=>∃ p,σ p=none/\v = .tuple [.ptr p 0,.sl .shr ((grT l).map TC.rav)]/\σ'=σ.set p (some (.obj (tileCs (grT l)))):=by
 have hl416:=z416_len
 obtain ⟨Z,hZ⟩:∃ Z,Z=z416:=⟨_,rfl⟩
 have hs1:=soft416z
 rw [<-hZ] at hs1 hl416
 have hc1:=grow_c1
 rw [<-hZ] at hc1
 have hll:((l.map Md.av).length:Int)=(l.length:Int):=by rw [List.length_map]
 refine a13 (by simp) ?_
 rw [c13_24.eq_1,c13_23.eq_1,hc1]
 simp (disch:=first|assumption|omega) only [go_sem]
 refine boxC_by rfl fun p hp=>?_
 simp (disch:=first|assumption|omega) only [go_sem]
 refine mkb_own (by decide) (by decide) (by decide) (by decide) fun X hX=>?_
 repeat (with_reducible replace hX:=set_none hX;obtain ⟨_,_,hX⟩:=hX)
 have hXp:X≠p:=by assumption
 have hpX:p≠X:=Ne.symm hXp
 have e32:((32:Int)).toNat=32:=rfl
 have hz4:(List.replicate 32 ([.int .i64 0,.int .i64 0,.str [],.int .i64 0,.int .i64 0,.bool false,.bool false,.int .i64 0,.int .i64 0,.bool false,.bool false,.sl .full [],.int .i64 0,.int .i64 0,.str []]:List AV)).flatten=z480:=rfl
 rw [e32,hz4]
 have hsd:SDrop ((σ.set p (some (.obj Z))).set X (some (.obj z480))) ((σ.set p (some (.obj (tileCs (grN l 0))))).set X (some (.obj (rTile (grN l 0))))):=SDrop.cong (SDrop.cong (SDrop.refl σ) hs1) soft480z
 obtain ⟨Y,hY⟩:∃ Y,Y=z480:=⟨_,rfl⟩
 rw [<-hY] at hsd ⊢
 clear hY hs1 hc1 hz4
 obtain ⟨J,hJ⟩:∃ J:Nat->AFr->ASt->Prop,J=fun i a s2=>(i<=l.length/\i<=40)/\(a 0 = .sl .shr (l.map Md.av)/\a 4 = .ptr p 0/\a 5 = .msl X 0 32 32/\a 6 = .int .i64 i)/\s2=(σ.set p (some (.obj (tileCs (grN l i))))).set X (some (.obj (rTile (grN l i)))):=⟨_,rfl⟩
 simp (disch:=first|assumption|omega) only [go_sem]
 refine wp_loop_by J (fun i=>40-i) 0 (Dr.sdrop hsd ?_) ?_
 ·rw [hJ]
  refine ⟨⟨Nat.zero_le _,Nat.zero_le _⟩,?_,rfl⟩
  simp (disch:=first|assumption|omega) only [go_sem]
 intro i a1 s2 hjj
 rw [hJ] at hjj
 obtain ⟨⟨hi,hi40⟩,hf,rfl⟩:=hjj
 have hTl:=grN_len l i
 have hcl:=flat_len TC.cs_len (grN l i)
 have hrl:=flat_len TC.rcs_len (grN l i)
 by_cases hlt:i<l.length/\i<40
 ·have hl1:(i:Int)<(l.length:Int):=by omega
  have hl2:(i:Int)<40:=by omega
  obtain ⟨m,hm⟩:∃ m,l[i]? = some m:=⟨_,List.getElem?_eq_getElem hlt.1⟩
  have hmx:(l.map Md.av)[i]? = some (.agg [.int .i64 m.a,.str m.F,.int .i64 m.k,.int .i64 m.n,.str m.S]):=by rw [List.getElem?_map,hm];rfl
  have hgs:=grN_succ hm
  have ha:=atN_eq m.a
  have halt:=atN_lt m.a
  have hr1 : -32<m.a.tmod 32:=Int.lt_tmod_of_pos m.a (by decide)
  have hr2:m.a.tmod 32<32:=Int.tmod_lt_of_pos _ (by decide)
  obtain ⟨rr,hrr⟩:∃ rr,m.a.tmod 32=rr:=⟨_,rfl⟩
  rw [hrr] at ha hr1 hr2
  have hset1:=flat_set TC.cs_len m.tc (grN l i) (atN m.a) (by omega)
  have hset2:=flat_set TC.rcs_len m.tc (grN l i) (atN m.a) (by omega)
  rw [<-hgs] at hset1 hset2
  have hat:(grN l (i+1))[atN m.a]? = some m.tc:=by rw [hgs,List.getElem?_set_self (by omega)]
  have hld:=flat_at TC.cs_len _ _ _ hat
  have hcl2:=flat_len TC.cs_len (grN l (i+1))
  have hTl2:=grN_len l (i+1)
  have hC:=fun (τ:ASt) (h:U8 τ) (h2:LV τ)=>lcell_ok h h2 m.a m.F m.k m.n m.S
  have hTo:=ltold_ok m.tc (by have:=lcT_size m.F;show (lcT m.F).size<=_;omega)
  have htc:lcC m.F m.k m.n m.S=m.tc:=rfl
  rw [htc,TC.av_cs] at hC
  rw [TC.rav_rcs,TC.av_cs] at hTo
  have hU2:U8 ((σ.set p (some (.obj (tileCs (grN l i))))).set X (some (.obj (rTile (grN l i))))):=U8.set (U8.set hU hp) (by rw [ASt.set_ne hXp];assumption)
  have hV2:LV ((σ.set p (some (.obj (tileCs (grN l i))))).set X (some (.obj (rTile (grN l i))))):=lv_add20 (lv_add20 hV hp) (by rw [ASt.set_ne hXp];assumption)
  have hf1:=TC.cs_leaf m.tc
  have hf2:=TC.rcs_leaf m.tc
  have hn1:=TC.cs_len m.tc
  have hn2:=TC.rcs_len m.tc
  have hcd:∀ T,T.flatMap TC.cs=tileCs T:=fun _=>rfl
  have hrd:∀ T,T.flatMap TC.rcs=rTile T:=fun _=>rfl
  rw [hcd,hcd] at hset1
  rw [hcd] at hld hcl hcl2
  rw [hrd,hrd] at hset2
  rw [hrd] at hrl
  generalize hC2:tileCs (grN l (i+1))=C2 at *
  generalize hR2:rTile (grN l (i+1))=R2 at *
  generalize hC1:tileCs (grN l i)=C1 at *
  generalize hR1:rTile (grN l i)=R1 at *
  generalize m.tc.cs=mcs at *
  generalize m.tc.rcs=mrs at *
  generalize atN m.a=at' at *
  generalize l.map Md.av=LA at *
  have hb1:at'*13+13<=C1.length:=by omega
  have hb2:at'*15+15<=R1.length:=by omega
  have hb3:at'*13+13<=C2.length:=by omega
  have hatl:(at':Int)<32:=by omega
  have hatl0:(0:Int)<=(at':Int):=by omega
  simp (disch:=first|assumption|omega) only [go_sem,hf,hll,hl1,hl2,hmx,Int.toNat_natCast,hrr,ha]
  refine (hC _ hU2 hV2).mono ?_
  rintro v s3 ⟨rfl,rfl⟩
  simp (disch:=first|assumption|omega) only [go_sem,hf,hb1,hn1,hf1,hset1,hld,hb3,Int.toNat_natCast,Nat.zero_add]
  rw [set_mid hpX]
  refine hTo.use ?_
  simp (disch:=first|assumption|omega) only [go_sem,hf,hn2,hf2,hb2,hset2,Int.toNat_natCast,Nat.zero_add,ASt.set_set]
  refine ⟨i+1,by dsimp only;omega,Dr.now ?_⟩
  rw [hJ]
  refine ⟨by omega,?_,by rw [hC2,hR2]⟩
  simp (disch:=first|assumption|omega) only [go_sem,hf]
 ·have hend:grN l i=grT l:=by
   unfold grT grN
   by_cases h:i<l.length
   ·rw [show i=40 by omega]
   ·rw [List.take_of_length_le (by omega),List.take_of_length_le (by omega)]
  rw [hend]
  have hTl2:(grT l).length=32:=grN_len l 40
  have hXn:(σ.set p (some (.obj (tileCs (grT l))))) X=none:=by rw [ASt.set_ne hXp];assumption
  have hrl2:=flat_len TC.rcs_len (grT l)
  have hfz:Fz ((σ.set p (some (.obj (tileCs (grT l))))).set X (some (.obj (rTile (grT l))))) (σ.set p (some (.obj (tileCs (grT l))))) (.tuple [.ptr p 0,.msl X 0 32 32]) (.tuple [.ptr p 0,.sl .shr ((grT l).map TC.rav)]):=by
   refine .tuple (.cons (.refl _) (.cons (.msl 0 32 32 15 _ (ASt.set_same _ _ _) hXn (by rw [List.length_map,hTl2]) (Nat.le_refl _) (fun x hx=>?_) ?_) .nil))
   ·obtain ⟨c,_,rfl⟩:=List.mem_map.1 hx
    exact TC.rcs_len c
   ·rw [List.drop_zero,List.take_of_length_le (by show (rTile (grT l)).length<=_;unfold rTile;omega),List.flatMap_map]
    rfl
  have hdr:Drop ((σ.set p (some (.obj (tileCs (grT l))))).set X (some (.obj (rTile (grT l))))) (σ.set p (some (.obj (tileCs (grT l))))):=Drop.set hXn
  by_cases h1:i<l.length
  ·have hl1:(i:Int)<(l.length:Int):=by omega
   have hl2:¬ (i:Int)<40:=by omega
   simp (disch:=first|assumption|omega) only [go_sem,hf,hl1,hl2]
   exact retC_by hdr hfz ⟨p,hp,rfl,rfl⟩
  ·have hl1:¬ (i:Int)<(l.length:Int):=by omega
   simp (disch:=first|assumption|omega) only [go_sem,hf,hl1]
   exact retC_by hdr hfz ⟨p,hp,rfl,rfl⟩
end Go.A
end
