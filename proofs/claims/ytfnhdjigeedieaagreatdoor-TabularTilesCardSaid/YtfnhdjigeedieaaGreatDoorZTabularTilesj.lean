/- Part 10 of what TabularTiles leans on: Pi CodeOd Od Sd Ya Yd Ye Qe Qf Qd Qg Qh Qi CodeOe Oe CodeRa CodeOf CodeOg CodeVh CodeRd CodeOh CodeOi CodeGi CodeXb CodeXd CodeHv CodeRb CodeOj CodeOk CodeOl Ol Sza CodeOm Om On CodeOp Op Vl CodeOr. -/
import Derived.Test.YtfnhdjigeedieaaGreatDoorProg
import Derived.KernelRfl
import Derived.Lib.ValidLaws
import Derived.Test.YtfnhdjigeedieaaGreatDoorZTabularTilesi
set_option linter.defProp false
set_option linter.unusedSimpArgs false
set_option linter.unusedVariables false
set_option maxRecDepth 100000
section
attribute [local go_sem] reduceCtorEq Nat.reduceEqDiff Nat.reduceAdd Nat.reduceSub Nat.reduceMul Nat.reduceLeDiff Int.reduceLT Int.reduceLE Int.reduceEq Int.reduceNeg Int.reduceAdd Int.reduceSub Int.reduceMul true_imp_iff forall_const Nat.mul_one Int.reduceToNat Nat.reducePow Int.reducePow Bool.true_and Bool.false_and Bool.and_false
attribute [local go_sem ↓] reduceIte
namespace Go.A
open Go.Proofs Go.Lib
structure TokGd (t:Tok):Prop where
 k1:1<=t.kind
 k6:t.kind<=6
 len:t.text.length<=8100
 num:t.kind=1->numB t.text=true
 ref:t.kind=4->∃ w,refB w=true/\t.text=greatP w
 err:t.kind=5->t.text∈errTexts
 nam:t.kind=3->t.text ≠ []
theorem TokGd.of {kd:Int} {t:List UInt8} {a c:Nat} (h1:1<=kd) (h6:kd<=6) (hl:t.length<=8100) (hn:kd=1->numB t=true) (hr:kd=4->∃ w,refB w=true/\t=greatP w) (he:kd=5->t∈errTexts) (hm:kd=3->t ≠ []):TokGd ⟨kd,t,a,c⟩:=⟨h1,h6,hl,hn,hr,he,hm⟩
theorem no1 {p:Prop} {a b:Int} (h:a=b) (hn:decide (a=b)=false):p:=absurd h (of_decide_eq_false hn)
theorem quotedF_len:∀ (k:Nat) (r:List UInt8) (p:Nat) (acc:List UInt8) kd t n,quotedF k r p acc = .tok kd t n->kd=2/\t.length<=acc.length+4*r.length
 | 0,r,p,acc,kd,t,n,h=>by simp [quotedF] at h
 | k+1,r,p,acc,kd,t,n,h=>by
   by_cases hr:r = []
   ·subst hr;rw [quotedF_nil] at h;simp at h
   have hw:=decodeL_width r
   have hle:=decodeL_le r hr
   unfold quotedF at h
   rw [if_neg hr] at h
   split at h
   ·simp at h
   split at h
   ·have:=quotedF_len k _ _ _ kd t n h
    have he:=enc_le ((decodeL r).1:Int)
    rw [List.length_append,List.length_drop] at this
    exact ⟨this.1,by omega⟩
   split at h
   ·rename_i h1 h2 h3
    have hl2:=(List.getElem?_eq_some_iff.1 h3).1
    have:=quotedF_len k _ _ _ kd t n h
    rw [List.length_append,List.length_drop] at this
    simp only [List.length_cons,List.length_nil] at this
    exact ⟨this.1,by omega⟩
   ·simp only [Step.tok.injEq] at h
    obtain ⟨rfl,rfl,rfl⟩:=h
    exact ⟨rfl,by omega⟩
theorem failS_gd (r:List UInt8):∀ (es:List (List UInt8)) kd t n,failS r es = .tok kd t n->kd=5/\t∈es
 | [],kd,t,n,h=>by simp [failS] at h
 | e::es,kd,t,n,h=>by
   unfold failS at h
   split at h
   ·simp only [Step.tok.injEq] at h
    obtain ⟨rfl,rfl,rfl⟩:=h
    exact ⟨rfl,by simp⟩
   ·obtain ⟨h1,h2⟩:=failS_gd r es kd t n h
    exact ⟨h1,by simp [h2]⟩
theorem greatP_len (l:List UInt8):(greatP l).length=l.length:=by unfold greatP;simp
theorem greatP_ne {l:List UInt8} (h:l ≠ []):greatP l ≠ []:=fun e=>h (List.eq_nil_of_length_eq_zero (by rw [<-greatP_len,e];rfl))
theorem nameB_ne {l:List UInt8} (h:nameB l=true):l ≠ []:=by
 unfold nameB at h
 simp only [Bool.and_eq_true,decide_eq_true_eq] at h
 exact h.1.1
theorem alikeP_len (c:Int):(alikeP c).length<=2:=by
 unfold alikeP
 repeat' split
 all_goals decide
theorem stepP_gd (r:List UInt8) (hl:r.length<=2000) {kd:Int} {t:List UInt8} {n:Nat} (h:stepP r = .tok kd t n) (a c:Nat):TokGd ⟨kd,t,a,c⟩:=by
 unfold stepP at h
 dsimp only at h
 split at h
 ·simp at h
 split at h
 ·simp at h
 split at h
 ·unfold wordsS at h
  dsimp only at h
  have hw:(r.take (runL wordB r)).length<=8100:=by rw [List.length_take];omega
  split at h
  ·rename_i hn
   simp only [Step.tok.injEq] at h
   obtain ⟨rfl,rfl,rfl⟩:=h
   exact .of (by decide) (by decide) hw (fun _=>hn) (fun h=>no1 h (by decide)) (fun h=>no1 h (by decide)) (fun h=>no1 h (by decide))
  split at h
  ·rename_i hn
   simp only [Step.tok.injEq] at h
   obtain ⟨rfl,rfl,rfl⟩:=h
   exact .of (by decide) (by decide) (by rw [greatP_len];omega) (fun h=>no1 h (by decide)) (fun _=>⟨_,hn,rfl⟩) (fun h=>no1 h (by decide)) (fun h=>no1 h (by decide))
  split at h
  ·rename_i hn
   simp only [Step.tok.injEq] at h
   obtain ⟨rfl,rfl,rfl⟩:=h
   exact .of (by decide) (by decide) (by rw [greatP_len];omega) (fun h=>no1 h (by decide)) (fun h=>no1 h (by decide)) (fun h=>no1 h (by decide)) (fun _=>greatP_ne (nameB_ne hn))
  ·simp at h
 split at h
 ·obtain ⟨rfl,h2⟩:=quotedF_len _ _ _ _ _ _ _ h
  rw [List.length_drop] at h2
  simp only [List.length_nil] at h2
  exact .of (by decide) (by decide) (by omega) (fun h=>no1 h (by decide)) (fun h=>no1 h (by decide)) (fun h=>no1 h (by decide)) (fun h=>no1 h (by decide))
 split at h
 ·obtain ⟨rfl,h2⟩:=failS_gd _ _ _ _ _ h
  have:=errTexts_len t h2
  exact .of (by decide) (by decide) (by omega) (fun h=>no1 h (by decide)) (fun h=>no1 h (by decide)) (fun _=>h2) (fun h=>no1 h (by decide))
 ·unfold opS at h
  split at h
  ·simp only [Step.tok.injEq] at h
   obtain ⟨rfl,rfl,rfl⟩:=h
   have:=alikeP_len ((decodeL r).1:Int)
   exact .of (by decide) (by decide) (by omega) (fun h=>no1 h (by decide)) (fun h=>no1 h (by decide)) (fun h=>no1 h (by decide)) (fun h=>no1 h (by decide))
  ·split at h
   ·rename_i e he
    simp only [Step.tok.injEq] at h
    obtain ⟨rfl,rfl,rfl⟩:=h
    have:=twos_len e (twoS_fits r _ _ he).1
    exact .of (by decide) (by decide) (by omega) (fun h=>no1 h (by decide)) (fun h=>no1 h (by decide)) (fun h=>no1 h (by decide)) (fun h=>no1 h (by decide))
   ·split at h
    ·simp only [Step.tok.injEq] at h
     obtain ⟨rfl,rfl,rfl⟩:=h
     exact .of (by decide) (by decide) (by rw [List.length_take];omega) (fun h=>no1 h (by decide)) (fun h=>no1 h (by decide)) (fun h=>no1 h (by decide)) (fun h=>no1 h (by decide))
    ·simp at h
theorem lexF_gd:∀ (k:Nat) (r:List UInt8) (a c:Nat) (acc L:List Tok) (x:Nat),r.length<=2000->lexF k r a c acc=(L,x,0)->(∀ t∈acc,TokGd t)->∃ M a' c',L=M ++ [⟨0,[],a',c'⟩]/\(∀ t∈M,TokGd t)/\M.length<=acc.length+r.length
 | 0,r,a,c,acc,L,x,hr,h,hacc=>by simp [lexF] at h
 | k+1,r,a,c,acc,L,x,hr,h,hacc=>by
   rw [lexF] at h
   split at h
   ·simp only [Prod.mk.injEq] at h
    obtain ⟨rfl,_⟩:=h
    exact ⟨acc,a,c,rfl,hacc,by omega⟩
   ·rename_i hne
    have hpos:=List.length_pos_iff.2 hne
    split at h
    ·simp at h
    ·obtain ⟨M,a',c',h1,h2,h3⟩:=lexF_gd k _ _ _ _ _ _ (by rw [List.length_drop];omega) h hacc
     rw [List.length_drop] at h3
     exact ⟨M,a',c',h1,h2,by omega⟩
    ·rename_i kd t n hst
     obtain ⟨f1,f2⟩:=(stepP_fits r hne).2 kd t n hst
     obtain ⟨M,a',c',h1,h2,h3⟩:=lexF_gd k _ _ _ _ _ _ (by rw [List.length_drop];omega) h (fun u hu=>by
      rcases List.mem_append.1 hu with hu|hu
      ·exact hacc u hu
      ·simp at hu;subst hu;exact stepP_gd r hr hst a c)
     rw [List.length_drop,List.length_append,List.length_singleton] at h3
     exact ⟨M,a',c',h1,h2,by omega⟩
theorem lexP_gd {s:List UInt8} (h:(lexP s).2.2=0):∃ M a' c',(lexP s).1=M ++ [⟨0,[],a',c'⟩]/\(∀ t∈M,TokGd t)/\M.length<=2000:=by
 unfold lexP at h ⊢
 split
 ·rename_i hl;rw [if_pos hl] at h;cases h
 ·rename_i hl
  rw [if_neg hl] at h
  obtain ⟨R,hR⟩:∃ R,lexF (s.length+1) s 0 0 []=R:=⟨_,rfl⟩
  rw [hR] at h ⊢
  obtain ⟨L,x,e⟩:=R
  dsimp only at h ⊢
  subst h
  obtain ⟨M,a',c',h1,h2,h3⟩:=lexF_gd _ _ _ _ _ _ _ (by omega) hR (by simp)
  exact ⟨M,a',c',h1,h2,by simp at h3;omega⟩
theorem getD_app_left {M:List Tok} {e:Tok} {i:Nat} (h:i<M.length):(M ++ [e]).getD i endT=M.getD i endT:=by
 rw [List.getD_eq_getElem?_getD,List.getD_eq_getElem?_getD,List.getElem?_append_left h]
theorem getD_mem {M:List Tok} {i:Nat} (h:i<M.length):M.getD i endT∈M:=by
 rw [List.getD_eq_getElem?_getD,List.getElem?_eq_getElem h]
 exact List.getElem_mem h
theorem lex_toks {s:List UInt8} (h:(lexP s).2.2=0):TokOk (lexP s).1/\(lexP s).1.length<=2001/\∀ i,((lexP s).1.getD i endT).kind≠0->TokGd ((lexP s).1.getD i endT):=by
 obtain ⟨M,a',c',h1,h2,h3⟩:=lexP_gd h
 rw [h1]
 have hl:(M ++ [(⟨0,[],a',c'⟩:Tok)]).length=M.length+1:=by simp
 have hlast:(M ++ [(⟨0,[],a',c'⟩:Tok)]).getD M.length endT=⟨0,[],a',c'⟩:=by
  rw [List.getD_eq_getElem?_getD,List.getElem?_append_right (Nat.le_refl _),Nat.sub_self];rfl
 have hout:∀ i,M.length<i->(M ++ [(⟨0,[],a',c'⟩:Tok)]).getD i endT=endT:=fun i hi=>by
  rw [List.getD_eq_getElem?_getD,List.getElem?_eq_none (by rw [hl];omega)];rfl
 have hgd:∀ i,i<M.length->TokGd ((M ++ [(⟨0,[],a',c'⟩:Tok)]).getD i endT):=fun i hi=>by
  rw [getD_app_left hi];exact h2 _ (getD_mem hi)
 refine ⟨⟨⟨by rw [hl];omega,fun i hi=>?_,fun i hi hk=>?_⟩,by rw [hl];omega,fun i=>?_⟩,by rw [hl];omega,fun i hk=>?_⟩
 ·rw [hl] at hi
  obtain rfl:i=M.length:=by omega
  rw [hlast]
 ·rw [hl] at hi ⊢
  rcases Nat.lt_or_ge i M.length with h|h
  ·omega
  ·obtain rfl:i=M.length:=by omega
   rw [hlast] at hk
   exact absurd rfl hk
 ·rcases Nat.lt_trichotomy i M.length with h|h|h
  ·have:=(hgd i h).len;omega
  ·subst h;rw [hlast];simp
  ·rw [hout i h];simp [endT]
 ·rcases Nat.lt_trichotomy i M.length with h|h|h
  ·exact hgd i h
  ·subst h;rw [hlast] at hk;exact absurd rfl hk
  ·rw [hout i h] at hk;exact absurd rfl hk
def st0:PSt:=⟨0,0,0,0⟩
theorem st0_fit {T:List Tok} (h:Ends T):Fit T st0:=⟨h.pos,by decide,by decide,fun _=>by decide⟩
def parseR (s:List UInt8):Nd×Int×Int:=(parseT (30*(lexP s).1.length+30) s).getD (zN,0,0)
theorem betw_some {s:List UInt8} (h:(lexP s).2.2=0):∃ r,betwP (lexP s).1 (30*(lexP s).1.length+30) 0 st0=some r:=by
 obtain ⟨hT,_,_⟩:=lex_toks h
 refine (suffF hT.ends _).betw 0 st0 (by omega) (st0_fit hT.ends) ?_
 unfold Mz
 split
 ·show 30*(_-0)+20<=_
  omega
 ·omega
set_option maxHeartbeats 2000000 in
theorem parseR_ok {σ:ASt} (hU:U8 σ) (hV:LV σ) (s:List UInt8) (hs:s.length<=1000000000):ACalls Tryz.prog 27 [.str s] σ fun v σ'=>v = .tuple [(parseR s).1.av,.int .i64 (parseR s).2.1,.int .i64 (parseR s).2.2]/\σ'=σ:=by
 have hL:=fun (τ:ASt) (h:U8 τ)=>lex_ok h s hs
 obtain ⟨R,hR⟩:∃ R,parseR s=R:=⟨_,rfl⟩
 rw [hR]
 unfold parseR parseT at hR
 have hbs:=betw_some (s:=s)
 have hto:=lex_toks (s:=s)
 obtain ⟨FU,hFU⟩:∃ FU,30*(lexP s).1.length+30=FU:=⟨_,rfl⟩
 rw [hFU] at hR hbs
 generalize lexP s=X at *
 obtain ⟨T,at',er⟩:=X
 dsimp only at *
 have hz:∀ a e:Int,∀ σ σ':ASt,Fz σ σ' (resV [.agg [.int .i64 0,.int .i64 0,.str [],.int .i64 0,.int .i64 0,.bool false,.bool false,.int .i64 0,.int .i64 0,.bool false,.bool false,.sl .full []],.int .i64 a,.int .i64 e]) (.tuple [.agg (Nd.cs 0 0 [] .zero .zero []),.int .i64 a,.int .i64 e]):=fun a e σ σ'=>
  .tuple (.cons (.agg (.cons (.refl _) (.cons (.refl _) (.cons (.refl _) (.cons (.refl _) (.cons (.refl _) (.cons (.refl _) (.cons (.refl _) (.cons (.refl _) (.cons (.refl _) (.cons (.refl _) (.cons (.refl _) (.cons (.sl _ _) .nil))))))))))))) (.cons (.refl _) (.cons (.refl _) .nil)))
 refine a27 (by simp) ?_
 simp (disch:=first|assumption|omega) only [go_sem]
 refine aBq fun d hd=>?_
 have hUd:=hU.set hd (r:=some (.obj zero12))
 have hVd:LV (σ.set d (some (.obj zero12))):=by
  unfold LV at hV ⊢
  rw [ASt.set_ne]
  ·exact hV
  ·rintro e;rw [<-e,hV] at hd;cases hd
 unfold zero12 at hUd hVd
 simp (disch:=first|assumption|omega) only [go_sem]
 refine (hL _ hUd).mono ?_
 rintro v σ1 ⟨rfl,rfl⟩
 by_cases he:er=0
 ·rw [if_neg (by simp [he])] at hR
  obtain ⟨hT,hTl,_⟩:=hto he
  obtain ⟨r1,hr1⟩:=hbs he
  have hr1':betwP T FU 0 ⟨0,0,0,0⟩=some r1:=hr1
  rw [hr1'] at hR
  have hw:=(wentF hT.ends FU).betw _ _ _ hr1 (st0_fit hT.ends)
  have hwk:=(walkF hT FU).betw
  obtain ⟨n,s1⟩:=r1
  dsimp only at hR hw
  obtain ⟨s2,hs2⟩:∃ s2,(if (curT T s1).kind≠0 then failP T s1 10 else s1)=s2:=⟨_,rfl⟩
  rw [hs2] at hR
  simp (disch:=first|assumption|omega) only [go_sem,he]
  refine boxC_by rfl fun b hb=>?_
  have hbd:b≠d:=by rintro rfl;rw [ASt.set_same] at hb;cases hb
  have hb0:σ b=none:=by rwa [ASt.set_ne hbd] at hb
  have hbp:(σ.set b (pr T st0)) b=pr T st0:=ASt.set_same _ _ _
  have hVb:LV (σ.set b (pr T st0)):=by
   unfold LV at hV ⊢
   rw [ASt.set_ne]
   ·exact hV
   ·rintro e;rw [<-e,hV] at hb0;cases hb0
  obtain ⟨_,T2,S2⟩:=St2.of (σ:=σ.set b (pr T st0)) (b:=b) (d:=d) (by rw [ASt.set_ne (Ne.symm hbd)];exact hd) (pr_fix hbp).1 (pr_fix hbp).2
  have V2:∀ X Y,LV (T2 X Y):=fun X Y=>S2.fix _ _ _ _ hVb
  have hst:∀ Z:Option Role,(σ.set d Z).set b (some (.obj [.sl .shr (T.map tokAV),.int .i64 0,.int .i64 0,.int .i64 0,.int .i64 0]))=T2 (pr T st0) Z:=fun Z=>by
   have:=S2.ba (pr T st0) Z
   rw [<-this,set_swap hbd,ASt.set_set]
   rfl
  have k1:=S2.s1
  have hcb:=fun Y=>hwk b 0 st0 (n,s1) (by omega) hr1 (st0_fit hT.ends) _ (V2 (pr T st0) Y) (S2.a1 _ _)
  rw [show ((0:Nat):Int)=0 from rfl] at hcb
  dsimp only at hcb
  obtain ⟨o,m,t,x,y,ks⟩:=n
  simp only [Nd.av_cs] at hcb
  generalize hKL:ks.map Nd.av=KL at *
  simp (disch:=first|assumption|omega) only [go_sem,hst]
  refine (hcb _).mono ?_
  rintro v σ1 ⟨rfl,rfl⟩
  rw [k1]
  simp (disch:=first|assumption|omega) only [go_sem]
  refine aBq fun e he2=>?_
  obtain ⟨hbe,hde,T3,S3⟩:=St3.of S2 (X0 := .obj _) he2
  have ab:=S3.ab
  have k3:=S3.s3
  have k2:=S3.s2
  have k1:=S3.s1
  have w3:=S3.a3
  have w2:=S3.a2
  have w1:=S3.a1
  have hDr:∀ X Y Z,Drop (T3 X Y Z) σ:=fun X Y Z=>by
   have h1:=S3.drop X Y Z
   rw [ASt.set_set] at h1
   exact h1.trans (Drop.set hb0)
  have hcu:=fun Y Z=>pcur_ok (T:=T) hw.fit.i (w1 (pr T s1) Y Z)
  have hfl:=fun τ hh=>pfail_ok (T:=T) (s:=s1) hw.fit.i 10 (σ:=τ) (b:=b) hh
  generalize curT T s1=tk at *
  unfold tokAV at hcu
  obtain ⟨F,hF⟩:∃ F,F=ACode.wp Tryz.prog c27_20:=⟨_,rfl⟩
  have fin:∀ a1:AFr,(a1 2 = .ptr d 0/\a1 8 = .ptr b 0/\a1 9 = .ptr e 0)->F (RetQ [.c 2 (some 12),.t 3,.t 4] fun v σ'=>v = .tuple [R.1.av,.int .i64 R.2.1,.int .i64 R.2.2]/\σ'=σ) a1 (T3 (pr T s2) (some (.obj zero12)) (some (.obj (Nd.cs o m t x y KL)))):=by
   intro a1 hf1
   rw [hF]
   unfold zero12
   have x1:∀ Y Z,T3 (pr T s2) Y Z b=some (.obj [.sl .shr (T.map tokAV),.int .i64 s2.i,.int .i64 s2.deep,.int .i64 s2.err,.int .i64 s2.bad]):=fun Y Z=>w1 _ _ _
   by_cases h2:s2.err=0
   ·rw [if_neg (by simp [h2])] at hR
    have hR':(Nd.mk o m t x y ks,(0:Int),(0:Int))=R:=hR
    subst hR'
    dsimp only
    rw [Nd.av_cs,hKL]
    simp (disch:=first|assumption|omega) only [go_sem,hf1,x1,h2,w3,w2,k2]
    exact retC_by (hDr _ _ _) (.refl _) ⟨rfl,rfl⟩
   ·rw [if_pos h2] at hR
    have hR':(zN,s2.bad,s2.err)=R:=hR
    subst hR'
    dsimp only
    rw [zN_av]
    simp (disch:=first|assumption|omega) only [go_sem,hf1,x1,h2,w2,k2]
    exact retC_by (hDr _ _ _) (hz _ _ _ _) ⟨rfl,rfl⟩
  unfold zero12 at fin
  simp (disch:=first|assumption|omega) only [go_sem,ab,k3,w3,←hF]
  refine (hcu _ _).mono ?_
  rintro v σ1 ⟨rfl,rfl⟩
  by_cases hk:tk.kind=0
  ·rw [if_neg (by simp [hk])] at hs2
   subst hs2
   simp (disch:=first|assumption|omega) only [go_sem,hk]
   refine fin _ ?_
   simp (disch:=first|assumption|omega) only [go_sem]
  ·rw [if_pos hk] at hs2
   subst hs2
   simp (disch:=first|assumption|omega) only [go_sem,hk]
   refine (hfl _ (w1 _ _ _)).mono ?_
   rintro v σ1 ⟨rfl,rfl⟩
   rw [k1]
   simp (disch:=first|assumption|omega) only [go_sem]
   refine fin _ ?_
   simp (disch:=first|assumption|omega) only [go_sem]
 ·rw [if_pos he] at hR
  have hR':(zN,(at':Int),er)=R:=hR
  subst hR'
  rw [zN_av]
  simp (disch:=first|assumption|omega) only [go_sem,he,ASt.set_set]
  exact retC_by (Drop.set hd) (hz _ _ _ _) ⟨rfl,rfl⟩
end Go.A
namespace Go.A
open Go.Proofs
/-! 8: tabular/tabularlaw20.Cell -/
/-! 28: tabular/tile.Plain -/
def c28_3:ACode := .seq (.ops [ oe 2 (.alloc [(.int .i64 0),(.int .i64 0),(.str []),(.int .i64 0),(.int .i64 0),(.bool false),(.bool false),(.int .i64 0),(.int .i64 0),(.bool false),(.bool false),(.sl .full []),.nili])]) (.seq (.ops [ oq 3 (.mv (.t 0)),oq 4 (.build [(.int .i64 0),(.int .i64 0),(.str []),(.int .i64 0),(.int .i64 0),(.bool false),(.bool false),(.int .i64 0),(.int .i64 0),(.bool false),(.bool false),(.sl .full []),.nili] [(12,1,(.t 3))]),oz (.store 13 (.t 2) (.t 4))]) .ret)
@[go_sem] def c28_3_wp:=wp_of c28_3.eq_1
def c28:AFn:=⟨5,[.c 2 (some 13)],c28_3⟩
theorem c28_ok:compF Tryz.prog Tryz.f28=some c28:=by kernel_rfl
theorem a28 {args:List AV} {σ:ASt} {R:AV->ASt->Prop} (hl:args.length<=5) (h:c28_3.wp Tryz.prog (RetQ [.c 2 (some 13)] R) (init args) σ):ACalls Tryz.prog 28 args σ R:=aFq Tryz.func28 c28_ok hl h
end Go.A
namespace Go.A
open Go.Proofs Go.Lib Go.Vint
theorem lv_add20 {σ:ASt} {b:Nat} {r:Option Role} (h:LV σ) (hb:σ b=none):LV (σ.set b r):=by
 unfold LV at h ⊢
 rw [ASt.set_ne]
 ·exact h
 ·intro e;rw [e,hb] at h;cases h
theorem pv_deep (v:PV):Go.A.deep v.av=v.av:=by cases v<;>simp only [PV.av,deep,deeps]
def zCells (v:AV):List AV := [.int .i64 0,.int .i64 0,.str [],.int .i64 0,.int .i64 0,.bool false,.bool false,.int .i64 0,.int .i64 0,.bool false,.bool false,.sl .full [],v]
theorem zCells_deep (v:AV):deeps (zCells v)=cellCs 0 0 [] .zero .zero [] (Go.A.deep v):=by
 simp only [zCells,deep,deeps]
 rfl
theorem zNd_av (v:PV):TC.av ⟨zNd,some v⟩ = .agg (cellCs 0 0 [] .zero .zero [] v.av):=rfl
theorem tplain_ok (v:PV):Pure Tryz.prog 28 [v.av] (TC.av ⟨zNd,some v⟩):=by
 intro σ
 have hr:TC.av ⟨zNd,some v⟩=Go.A.deep (.agg (zCells v.av)):=by
  rw [zNd_av,deep,zCells_deep,pv_deep]
 rw [hr]
 obtain ⟨t,x,hx⟩:=av_iface v
 rw [hx]
 refine a28 (by simp) ?_
 simp (disch:=first|assumption|omega) only [go_sem]
 refine aBq fun c hc=>?_
 simp (disch:=first|assumption|omega) only [go_sem]
 exact retC_by (Drop.set hc) (.deep _) ⟨rfl,rfl⟩
end Go.A
namespace Go.A
open Go.Proofs Go.Lib
theorem columnP_rng (l:List UInt8):0<=(columnP l).1/\(columnP l).1<700:=by
 unfold columnP
 split
 ·split
  ·decide
  ·dsimp only;omega
 ·decide
theorem readQ_good (l:List UInt8) (i:Nat) (col:Int) (ar ac:Bool) (h:0<=col/\col<700):(readQ l i col ar ac).1.good=true:=by
 unfold readQ
 split
 ·rfl
 ·simp only [Ref.good,decide_eq_true_eq];omega
theorem readR_good (l:List UInt8) (i:Nat) (ac:Bool):(readR l i ac).1.good=true:=by
 unfold readR
 split
 ·rfl
 split
 ·exact readQ_good _ _ _ _ _ (columnP_rng _)
 ·exact readQ_good _ _ _ _ _ (columnP_rng _)
theorem parseP_good (l:List UInt8):(parseP l).1.good=true:=by
 unfold parseP
 split
 ·rfl
 ·unfold readP
  split
  ·exact readR_good _ _ _
  ·exact readR_good _ _ _
theorem parseQ_rng {m d:Bool} {w p:List UInt8} {v:Int} (h:parseQ m w p d=some v):v.natAbs<=999999999999999999:=by
 unfold parseQ at h
 split at h
 ·cases h
 ·obtain ⟨n,_,hn⟩:=Option.bind_eq_some_iff.1 h
  unfold madeP at hn
  split at hn
  ·injection hn with hn
   split at hn<;>omega
  ·cases hn
theorem parseD_rng {s:List UInt8} {v:Int} (h:parseD s=some v):v.natAbs<=999999999999999999:=parseQ_rng h
mutual
def Nd.nk:Nd->Prop
 | .mk op _ _ _ _ ks=>((op=5\/op=6)->ks = [])/\Nd.nks ks
def Nd.nks:List Nd->Prop
 | []=>True
 | x::xs=>x.nk/\Nd.nks xs
end
theorem nks_mem:∀ {l:List Nd},Nd.nks l↔∀ x∈l,x.nk
 | []=>by simp [Nd.nks]
 | x::xs=>by rw [Nd.nks,nks_mem (l:=xs)];simp
def Nd.gd (n:Nd):Prop:=n.ok/\n.nk
theorem gd_mk {op n:Int} {s:List UInt8} {a b:Ref} {ks:List Nd} (h:nodeOk op n s a b ks.length) (h2:(op=5\/op=6)->ks = []) (hk:∀ x∈ks,x.gd):(Nd.mk op n s a b ks).gd:=by
 constructor
 ·rw [Nd.ok]
  exact ⟨h,Nd.oks_mem.2 fun x hx=>(hk x hx).1⟩
 ·rw [Nd.nk]
  exact ⟨h2,nks_mem.2 fun x hx=>(hk x hx).2⟩
theorem no_kids {x:Nd}:∀ y∈([]:List Nd),y.gd:=fun y hy=>by cases hy
theorem miss_gd:missN.gd:=gd_mk ⟨by decide,fun h=>by omega,fun h=>by omega,fun h=>by omega,fun h=>by omega,fun h=>by omega,fun h=>by omega,fun h=>by omega,fun h=>by omega,by decide⟩ (fun h=>by omega) (no_kids (x:=missN))
theorem sign_rng {x:List UInt8} {lvl:Nat} (h:x∈levelsL.getD lvl []):0<=idxP signL x/\idxP signL x<=11:=by
 have:∀ y∈levelsL.flatten,0<=idxP signL y/\idxP signL y<=11:=by decide
 refine this x (List.mem_flatten.2 ?_)
 rw [List.getD_eq_getElem?_getD] at h
 cases hl:levelsL[lvl]? with
 | none=>rw [hl] at h;simp at h
 | some l=>rw [hl] at h;exact ⟨l,List.mem_of_getElem? hl,h⟩
theorem fault_rng {x:List UInt8} (h:x∈errTexts):0<=idxP errL x/\idxP errL x<=6:=by
 have:∀ y∈errTexts,0<=idxP errL y/\idxP errL y<=6:=by decide
 exact this x h
theorem sizes_snoc (l:List Nd) (x:Nd):Nd.sizes (l ++ [x])=Nd.sizes l+x.size:=by
 induction l with
 | nil=>simp [Nd.sizes]
 | cons y l ih=>rw [List.cons_append,Nd.sizes,ih,Nd.sizes];omega
section
variable {T:List Tok}
theorem Went.e0 {s s':PSt} (h:Went T s s') (h0:s'.err=0):s.err=0:=by
 by_cases he:s.err=0
 ·exact he
 ·have:=(h.err he).1;omega
theorem enter_i {s:PSt} (h:(stepP1 (enterP T s)).err=0):(stepP1 (enterP T s)).i=s.i+1:=by
 have hi:(enterP T s).i=s.i:=by
  unfold enterP failP
  split
  ·split<;>rfl
  ·rfl
 unfold stepP1 at h ⊢
 split
 ·show (enterP T s).i+1=_
  omega
 ·rename_i hne
  rw [if_neg hne] at h
  exact absurd h hne
theorem must_i {s:PSt} {x:List UInt8} (h:(mustP T s x).err=0):s.err=0/\(mustP T s x).i=s.i+1:=by
 unfold mustP at h ⊢
 split
 ·rename_i hx
  rw [if_pos hx] at h
  exact ⟨h,rfl⟩
 ·rename_i hx
  rw [if_neg hx] at h
  unfold failP at h
  split at h
  ·cases h
  ·rename_i hne;exact absurd h hne
theorem fail_err {s:PSt} {e:Int} (he:e≠0) (h:(failP T s e).err=0):False:=by
 unfold failP at h
 split at h
 ·exact he h
 ·rename_i hne;exact hne h
structure GoodF (T:List Tok) (f:Nat):Prop where
 betw:∀ lvl s r,betwP T f lvl s=some r->Fit T s->r.2.err=0->r.1.gd/\r.1.size+2*s.i<=2*r.2.i
 loop:∀ lvl n s r,loopP T f lvl n s=some r->Fit T s->r.2.err=0->n.gd->r.1.gd/\r.1.size+2*s.i<=n.size+2*r.2.i
 signed:∀ s r,signedP T f s=some r->Fit T s->r.2.err=0->r.1.gd/\r.1.size+2*s.i<=2*r.2.i
 hundred:∀ s r,hundredP T f s=some r->Fit T s->r.2.err=0->r.1.gd/\r.1.size+2*s.i<=2*r.2.i
 hloop:∀ n s r,hloopP T f n s=some r->Fit T s->r.2.err=0->n.gd->r.1.gd/\r.1.size+2*s.i<=n.size+2*r.2.i
 prim:∀ s r,primP T f s=some r->Fit T s->r.2.err=0->r.1.gd/\r.1.size+2*s.i<=2*r.2.i
 name:∀ s r,nameP T f s=some r->Fit T s->(curT T s).kind=3->r.2.err=0->r.1.gd/\r.1.size+2*s.i<=2*r.2.i
 args:∀ s r,argsP T f s=some r->Fit T s->r.2.err=0->(∀ x∈r.1,x.gd)/\Nd.sizes r.1+2*s.i<=2*r.2.i
 aloop:∀ l s r,aloopP T f l s=some r->Fit T s->r.2.err=0->(∀ x∈l,x.gd)->(∀ x∈r.1,x.gd)/\Nd.sizes r.1+2*s.i<=Nd.sizes l+2*r.2.i
theorem leaf_gd {op n:Int} {s:List UInt8} {a b:Ref} (h:nodeOk op n s a b 0):(Nd.mk op n s a b []).gd:=gd_mk h (fun _=>rfl) (no_kids (x:=missN))
theorem leaf_size (op n:Int) (s:List UInt8) (a b:Ref):(Nd.mk op n s a b []).size=1:=by rw [Nd.size,Nd.sizes]
theorem one_size (op n:Int) (s:List UInt8) (a b:Ref) (x:Nd):(Nd.mk op n s a b [x]).size=1+x.size:=by rw [Nd.size,Nd.sizes,Nd.sizes];omega
theorem two_size (op n:Int) (s:List UInt8) (a b:Ref) (x y:Nd):(Nd.mk op n s a b [x,y]).size=1+x.size+y.size:=by rw [Nd.size,Nd.sizes,Nd.sizes,Nd.sizes];omega
theorem one_gd {op n:Int} {s:List UInt8} {a b:Ref} {x:Nd} (h:nodeOk op n s a b 1) (h5:op≠5/\op≠6) (hx:x.gd):(Nd.mk op n s a b [x]).gd:=
 gd_mk h (fun h=>by omega) fun y hy=>by simp at hy;subst hy;exact hx
theorem one_ok {op:Int} (h:op=7\/op=8\/op=9):nodeOk op 0 [] .zero .zero 1:=
 ⟨by omega,fun h=>by omega,fun h=>by omega,fun h=>by omega,fun h=>by omega,fun h=>by omega,fun h=>by omega,fun h=>by omega,fun h=>by omega,by decide⟩
theorem goodF (hT:Ends T) (hG:∀ i,(T.getD i endT).kind≠0->TokGd (T.getD i endT)) (hL:T.length<=100000):∀ f,GoodF T f
 | 0=>by
   constructor
   all_goals intros
   all_goals first
    | (rename_i h _ _;simp only [betwP,signedP,hundredP,primP,argsP,reduceCtorEq] at h)
    | (rename_i h _ _ _;simp only [loopP,hloopP,nameP,aloopP,reduceCtorEq] at h)
 | f+1=>by
   have ih:=goodF hT hG hL f
   have W:=wentF hT f
   constructor
   ·intro lvl s r h hf h0
    rw [betwP] at h
    split at h
    ·exact ih.signed s r h hf h0
    ·split at h
     ·cases h
     ·rename_i r1 h1
      have w1:=W.betw _ _ _ h1 hf
      have w2:=W.loop _ _ _ _ h w1.fit
      obtain ⟨g1,g2⟩:=ih.betw _ _ _ h1 hf (w2.e0 h0)
      obtain ⟨g3,g4⟩:=ih.loop _ _ _ _ h w1.fit h0 g1
      exact ⟨g3,by omega⟩
   ·intro lvl n s r h hf h0 hn
    rw [loopP] at h
    split at h
    ·rename_i hk
     split at h
     ·cases h
     ·rename_i r1 h1
      have w0:=Went.next hT hf (sgn_kind hk)
      have w1:=W.betw _ _ _ h1 w0.fit
      have w2:=W.loop _ _ _ _ h w1.fit
      obtain ⟨g1,g2⟩:=ih.betw _ _ _ h1 w0.fit (w2.e0 h0)
      have hs:(curT T s).text∈levelsL.getD lvl []:=by
       unfold sgn at hk
       simp only [Bool.and_eq_true,decide_eq_true_eq] at hk
       exact hk.2
      have hr:=sign_rng hs
      have hg:(Nd.mk (10+idxP signL (curT T s).text) 0 [] .zero .zero [n,r1.1]).gd:=by
       refine gd_mk ⟨by omega,fun h=>by omega,fun h=>by omega,fun h=>by omega,fun h=>by omega,fun h=>by omega,fun h=>by omega,fun h=>by omega,fun h=>by simp,by simp⟩ (fun h=>by omega) fun y hy=>?_
       simp only [List.mem_cons,List.not_mem_nil,or_false] at hy
       rcases hy with rfl|rfl
       ·exact hn
       ·exact g1
      obtain ⟨g3,g4⟩:=ih.loop _ _ _ _ h w1.fit h0 hg
      rw [two_size] at g4
      have:s.next.i=s.i+1:=rfl
      exact ⟨g3,by omega⟩
    ·injection h with h;subst h;exact ⟨hn,by dsimp only;omega⟩
   ·intro s r h hf h0
    rw [signedP] at h
    split at h
    ·rename_i hk
     split at h
     ·cases h
     ·rename_i r1 h1
      injection h with h;subst h
      obtain ⟨e1,e2,e3⟩:=enter_fit hT hf (isOp_kind hk)
      have w1:=W.signed _ _ h1 e1
      have e4:=enter_i (w1.e0 h0)
      obtain ⟨g1,g2⟩:=ih.signed _ _ h1 e1 h0
      dsimp only
      rw [one_size]
      exact ⟨one_gd (one_ok (by omega)) (by omega) g1,by show _<=2*r1.2.i;omega⟩
    split at h
    ·rename_i hk
     split at h
     ·cases h
     ·rename_i r1 h1
      injection h with h;subst h
      obtain ⟨e1,e2,e3⟩:=enter_fit hT hf (isOp_kind hk)
      have w1:=W.signed _ _ h1 e1
      have e4:=enter_i (w1.e0 h0)
      obtain ⟨g1,g2⟩:=ih.signed _ _ h1 e1 h0
      dsimp only
      rw [one_size]
      exact ⟨one_gd (one_ok (by omega)) (by omega) g1,by show _<=2*r1.2.i;omega⟩
    ·exact ih.hundred _ _ h hf h0
   ·intro s r h hf h0
    rw [hundredP] at h
    split at h
    ·cases h
    ·rename_i r1 h1
     have w1:=W.prim _ _ h1 hf
     have w2:=W.hloop _ _ _ h w1.fit
     obtain ⟨g1,g2⟩:=ih.prim _ _ h1 hf (w2.e0 h0)
     obtain ⟨g3,g4⟩:=ih.hloop _ _ _ h w1.fit h0 g1
     exact ⟨g3,by omega⟩
   ·intro n s r h hf h0 hn
    rw [hloopP] at h
    split at h
    ·rename_i hk
     have w0:=Went.next hT hf (isOp_kind hk)
     obtain ⟨g3,g4⟩:=ih.hloop _ _ _ h w0.fit h0 (one_gd (one_ok (by omega)) (by omega) hn)
     rw [one_size] at g4
     have:s.next.i=s.i+1:=rfl
     exact ⟨g3,by omega⟩
    ·injection h with h;subst h;exact ⟨hn,by dsimp only;omega⟩
   ·intro s r h hf h0
    have hni:s.next.i=s.i+1:=rfl
    have hgd:(curT T s).kind≠0->TokGd (curT T s):=fun hk=>by
     have he:=cur_err hk
     rw [cur_at he] at hk ⊢
     exact hG _ hk
    rw [primP] at h
    split at h
    ·rename_i hk
     split at h
     ·injection h with h;subst h;exact absurd h0 fun h=>fail_err (by decide) h
     ·rename_i v hv
      injection h with h;subst h
      refine ⟨leaf_gd ⟨by decide,fun _=>parseD_rng hv,fun h=>by omega,fun h=>by omega,fun h=>by omega,fun h=>by omega,fun h=>by omega,fun h=>by omega,fun h=>by omega,by decide⟩,?_⟩
      rw [leaf_size];dsimp only;omega
    split at h
    ·rename_i hk
     injection h with h;subst h
     have:=(hgd (by omega)).len
     refine ⟨leaf_gd ⟨by decide,fun h=>by omega,fun _=>by omega,fun h=>by omega,fun h=>by omega,fun h=>by omega,fun h=>by omega,fun h=>by omega,fun h=>by omega,by decide⟩,?_⟩
     rw [leaf_size];dsimp only;omega
    split at h
    ·rename_i hk
     injection h with h;subst h
     have hr:=fault_rng ((hgd (by omega)).err hk)
     have hq:((idxP errL (curT T s).text+1)*10000).tdiv 10000=idxP errL (curT T s).text+1:=Int.mul_tdiv_cancel _ (by decide)
     refine ⟨leaf_gd ⟨by decide,fun h=>by omega,fun h=>by omega,fun h=>by rw [hq];omega,fun h=>by omega,fun h=>by omega,fun h=>by omega,fun h=>by omega,fun h=>by omega,by decide⟩,?_⟩
     rw [leaf_size];dsimp only;omega
    split at h
    ·rename_i hk
     injection h with h;subst h
     unfold areaP at h0 ⊢
     split at h0
     ·rename_i ho
      rw [if_pos ho]
      refine ⟨leaf_gd ⟨by decide,fun h=>by omega,fun h=>by omega,fun h=>by omega,fun h=>by omega,fun _=>parseP_good _,fun h=>by omega,fun h=>by omega,fun h=>by omega,by decide⟩,?_⟩
      rw [leaf_size];dsimp only;omega
     ·rename_i ho
      rw [if_neg ho]
      split at h0
      ·exact absurd h0 fun h=>fail_err (by decide) h
      ·rename_i hk2
       rw [if_neg hk2]
       refine ⟨leaf_gd ⟨by decide,fun h=>by omega,fun h=>by omega,fun h=>by omega,fun h=>by omega,fun _=>parseP_good _,fun _=>parseP_good _,fun h=>by omega,fun h=>by omega,by decide⟩,?_⟩
       rw [leaf_size]
       have:s.next.next.next.i=s.i+3:=rfl
       dsimp only;omega
    split at h
    ·rename_i hk
     exact ih.name _ _ h hf hk h0
    split at h
    ·rename_i hk
     split at h
     ·cases h
     ·rename_i r1 h1
      injection h with h;subst h
      obtain ⟨e1,e2,e3⟩:=enter_fit hT hf (isOp_kind hk)
      have w1:=W.betw _ _ _ h1 e1
      obtain ⟨m1,m2⟩:=must_i (T:=T) (s:=r1.2) (x := [41]) h0
      have e4:=enter_i (w1.e0 m1)
      obtain ⟨g1,g2⟩:=ih.betw _ _ _ h1 e1 m1
      exact ⟨g1,by show _<=2*(mustP T r1.2 [41]).i;dsimp only;omega⟩
    ·injection h with h;subst h;exact absurd h0 fun h=>fail_err (by decide) h
   ·intro s r h hf hk3 h0
    have hni:s.next.i=s.i+1:=rfl
    have he0:s.err=0:=cur_err (T:=T) (by omega)
    have hn:=hf.next hT (by omega)
    have hgd:TokGd (curT T s):=by
     have hk:(curT T s).kind≠0:=by omega
     rw [cur_at he0] at hk ⊢
     exact hG _ hk
    rw [nameP] at h
    split at h
    ·rename_i hk
     obtain ⟨e1,e2,e3⟩:=enter_err hT hf he0
     split at h
     ·rename_i he
      injection h with h;subst h
      exact absurd h0 he
     ·rename_i he
      split at h
      ·cases h
      ·rename_i r1 h1
       injection h with h;subst h
       obtain ⟨g1,g2,g3,_⟩:=enter2 hT hf (by omega) (by simpa using he)
       have hl:=hT.more (s.i+1) hn.1.i (by omega)
       have g4:Fit T (enterP T s).next.next:=⟨by show (enterP T s).i+1+1<_;omega,g1.d0,g1.d1,g1.d2⟩
       have w1:=W.args _ _ h1 g4
       obtain ⟨k1,k2⟩:=ih.args _ _ h1 g4 h0
       have hi2:(enterP T s).next.next.i=(enterP T s).i+2:=rfl
       have hsl:=sizes_len r1.1
       have hlt:=w1.fit.i
       refine ⟨gd_mk ⟨by decide,fun h=>by omega,fun h=>by omega,fun h=>by omega,fun _=>hgd.nam hk3,fun h=>by omega,fun h=>by omega,fun h=>by omega,fun h=>by omega,by omega⟩ (fun h=>by omega) k1,?_⟩
       dsimp only
       rw [Nd.size]
       show _<=2*r1.2.i
       omega
    split at h
    ·injection h with h;subst h
     refine ⟨leaf_gd ⟨by decide,fun h=>by omega,fun h=>by omega,fun h=>by omega,fun h=>by omega,fun h=>by omega,fun h=>by omega,fun h=>by omega,fun h=>by omega,by decide⟩,?_⟩
     rw [leaf_size];dsimp only;omega
    split at h
    ·injection h with h;subst h
     refine ⟨leaf_gd ⟨by decide,fun h=>by omega,fun h=>by omega,fun h=>by omega,fun h=>by omega,fun h=>by omega,fun h=>by omega,fun h=>by omega,fun h=>by omega,by decide⟩,?_⟩
     rw [leaf_size];dsimp only;omega
    ·injection h with h;subst h;exact absurd h0 fun h=>fail_err (by decide) h
   ·intro s r h hf h0
    rw [argsP] at h
    split at h
    ·rename_i hk
     injection h with h;subst h
     refine ⟨no_kids (x:=missN),?_⟩
     have:s.next.i=s.i+1:=rfl
     rw [Nd.sizes];dsimp only;omega
    ·obtain ⟨g1,g2⟩:=ih.aloop _ _ _ h hf h0 (no_kids (x:=missN))
     rw [Nd.sizes] at g2
     exact ⟨g1,by omega⟩
   ·intro l s r h hf h0 hl
    rw [aloopP] at h
    split at h
    ·rename_i he
     injection h with h;subst h;exact absurd h0 he
    ·rename_i he
     split at h
     ·cases h
     ·rename_i r1 h1
      have w1:Went T s r1.2:=by
       split at h1
       ·injection h1 with h1;subst h1;exact Went.refl hf
       ·exact W.betw _ _ _ h1 hf
      have key:r1.2.err=0->r1.1.gd/\r1.1.size+2*s.i<=1+2*r1.2.i:=fun k0=>by
       split at h1
       ·injection h1 with h1;subst h1
        refine ⟨miss_gd,?_⟩
        show missN.size+_<=_
        unfold missN
        rw [leaf_size]
        dsimp only
        omega
       ·obtain ⟨k1,k2⟩:=ih.betw _ _ _ h1 hf k0
        exact ⟨k1,by omega⟩
      have hsnoc:=sizes_snoc l r1.1
      have hmem:r1.1.gd->∀ x∈l ++ [r1.1],x.gd:=fun k x hx=>by
       rcases List.mem_append.1 hx with hx|hx
       ·exact hl x hx
       ·simp at hx;subst hx;exact k
      split at h
      ·rename_i hk
       have w2:=Went.next hT w1.fit (isOp_kind hk)
       have w3:=W.aloop _ _ _ h w2.fit
       obtain ⟨k1,k2⟩:=key (w2.e0 (w3.e0 h0))
       obtain ⟨g1,g2⟩:=ih.aloop _ _ _ h w2.fit h0 (hmem k1)
       have:r1.2.next.i=r1.2.i+1:=rfl
       exact ⟨g1,by omega⟩
      ·injection h with h;subst h
       obtain ⟨m1,m2⟩:=must_i (T:=T) (s:=r1.2) (x := [41]) h0
       obtain ⟨k1,k2⟩:=key m1
       exact ⟨hmem k1,by dsimp only;omega⟩
end
theorem parseR_gd {s:List UInt8} (h:(parseR s).2.2=0):(parseR s).1.gd/\(parseR s).1.size<=5000:=by
 unfold parseR parseT at h ⊢
 by_cases h1:(lexP s).2.2=0
 ·obtain ⟨hT,hL,hG⟩:=lex_toks h1
  obtain ⟨r,hr⟩:=betw_some h1
  have hr':=hr
  unfold st0 at hr
  rw [if_neg (by simp [h1]),hr] at h ⊢
  dsimp only at h ⊢
  have W:=(wentF hT.ends _).betw _ _ _ hr' (st0_fit hT.ends)
  obtain ⟨q,hq⟩:∃ q,(if (curT (lexP s).1 r.2).kind≠0 then failP (lexP s).1 r.2 10 else r.2)=q:=⟨_,rfl⟩
  rw [hq] at h ⊢
  by_cases he:q.err≠0
  ·rw [if_pos he] at h
   exact absurd h he
  ·rw [if_neg he]
   have h0:r.2.err=0:=by
    split at hq
    ·subst hq
     exact absurd (by simpa using he) fun h=>fail_err (T:=(lexP s).1) (s:=r.2) (e:=10) (by decide) h
    ·subst hq
     simpa using he
   obtain ⟨g1,g2⟩:=(goodF hT.ends hG (by omega) _).betw _ _ _ hr' (st0_fit hT.ends) h0
   have:=W.fit.i
   refine ⟨g1,?_⟩
   show r.1.size<=_
   omega
 ·rw [if_pos (by simpa using h1)] at h
  exact absurd h h1
end Go.A
namespace Go.A
open Go.Proofs Go.Lib
theorem decode_whole {r:List UInt8} {c w:Nat} (hr:r ≠ []) (hd:decodeL r=(c,w)) (hv:(c,w)≠(65533,1)) (t:List UInt8):decodeL (r.take w++t)=(c,w):=by
 have hpos:=List.length_pos_iff.2 hr
 rw [decodeL_N] at hd ⊢
 have k0:=(r.getD 0 0).toNat_lt
 have k1:=(r.getD 1 0).toNat_lt
 rcases decodeN_shape r.length (r.getD 0 0).toNat (r.getD 1 0).toNat (r.getD 2 0).toNat (r.getD 3 0).toNat with ⟨c1,e⟩|⟨c1,c2,c3,cv,e⟩|⟨c1,c2,c3,c4,cv,cs,e⟩|⟨c1,c2,c3,c4,c5,cv,cw,e⟩|e
 ·rw [e] at hd
  injection hd with h1 h2
  subst h1 h2
  rw [takeA r hpos]
  generalize r.getD 0 0=b0 at *
  have e0:(([b0]++t).getD 0 0)=b0:=rfl
  rw [e0]
  unfold decodeN
  rw [if_pos c1]
 ·rw [e] at hd
  injection hd with h1 h2
  subst h1 h2
  rw [takeB r c2]
  generalize r.getD 0 0=b0 at *
  generalize r.getD 1 0=b1 at *
  have e0:(([b0,b1]++t).getD 0 0)=b0:=rfl
  have e1:(([b0,b1]++t).getD 1 0)=b1:=rfl
  have el:1<([b0,b1]++t).length:=by simp
  rw [e0,e1]
  unfold decodeN
  rw [if_neg (by omega),if_pos ⟨c1,el,c3⟩,if_pos (by omega)]
 ·rw [e] at hd
  injection hd with h1 h2
  subst h1 h2
  rw [takeC r c2]
  generalize r.getD 0 0=b0 at *
  generalize r.getD 1 0=b1 at *
  generalize r.getD 2 0=b2 at *
  have e0:(([b0,b1,b2]++t).getD 0 0)=b0:=rfl
  have e1:(([b0,b1,b2]++t).getD 1 0)=b1:=rfl
  have e2:(([b0,b1,b2]++t).getD 2 0)=b2:=rfl
  have el:2<([b0,b1,b2]++t).length:=by simp
  rw [e0,e1,e2]
  unfold decodeN
  rw [if_neg (by omega),if_neg (by omega),if_pos ⟨c1,⟨by omega,c3⟩,el,c4⟩,if_pos (by omega)]
 ·rw [e] at hd
  injection hd with h1 h2
  subst h1 h2
  rw [takeD r c2]
  generalize r.getD 0 0=b0 at *
  generalize r.getD 1 0=b1 at *
  generalize r.getD 2 0=b2 at *
  generalize r.getD 3 0=b3 at *
  have e0:(([b0,b1,b2,b3]++t).getD 0 0)=b0:=rfl
  have e1:(([b0,b1,b2,b3]++t).getD 1 0)=b1:=rfl
  have e2:(([b0,b1,b2,b3]++t).getD 2 0)=b2:=rfl
  have e3:(([b0,b1,b2,b3]++t).getD 3 0)=b3:=rfl
  have el:3<([b0,b1,b2,b3]++t).length:=by simp
  rw [e0,e1,e2,e3]
  unfold decodeN
  rw [if_neg (by omega),if_neg (by omega),if_neg (by omega),if_pos ⟨c1,⟨by omega,c3⟩,⟨by omega,c4⟩,el,c5⟩,if_pos (by omega)]
 ·rw [e] at hd
  exact absurd hd.symm hv
end Go.A
namespace Go.A
open Go.Proofs Go.Lib
def Tok.sh (a c:Nat) (t:Tok):Tok:=⟨t.kind,t.text,t.at'+a,t.col+c⟩
abbrev Rel:=Nat ⊕ (List Tok×Nat)
def Rel.sh (a c:Nat):Rel->Rel
 | .inl j => .inl (a+j)
 | .inr (ts,m) => .inr (ts.map (Tok.sh a c),c+m)
def rel:Nat->List UInt8->Rel
 | 0,_ => .inl 0
 | k+1,r=>
   if r = [] then .inr ([],0)
   else match stepP r with
    | .bad j => .inl j
    | .blank=>(rel k (r.drop 1)).sh 1 1
    | .tok kind t n=>match (rel k (r.drop n)).sh n (signsN (r.take n)) with
      | .inl j => .inl j
      | .inr (ts,m) => .inr (⟨kind,t,0,0⟩::ts,m)
theorem rel_fuel:∀ (k k':Nat) (r:List UInt8),r.length<k->r.length<k'->rel k r=rel k' r
 | 0,_,r,h,_=>by omega
 | _+1,0,r,_,h=>by omega
 | k+1,k'+1,r,h,h'=>by
   unfold rel
   by_cases hr:r = []
   ·rw [if_pos hr,if_pos hr]
   rw [if_neg hr,if_neg hr]
   have hpos:=List.length_pos_iff.2 hr
   have hf:=(stepP_fits r hr).2
   cases hs:stepP r with
   | bad j=>rfl
   | blank=>dsimp only;rw [rel_fuel k k' (r.drop 1) (by rw [List.length_drop];omega) (by rw [List.length_drop];omega)]
   | tok kd t n=>
     obtain ⟨h1,h2⟩:=hf kd t n hs
     dsimp only
     rw [rel_fuel k k' (r.drop n) (by rw [List.length_drop];omega) (by rw [List.length_drop];omega)]
def relP (r:List UInt8):Rel:=rel (r.length+1) r
theorem relP_nil:relP [] = .inr ([],0):=rfl
theorem relP_step {r:List UInt8} (hr:r ≠ []):relP r=match stepP r with
   | .bad j => .inl j
   | .blank=>(relP (r.drop 1)).sh 1 1
   | .tok kind t n=>match (relP (r.drop n)).sh n (signsN (r.take n)) with
     | .inl j => .inl j
     | .inr (ts,m) => .inr (⟨kind,t,0,0⟩::ts,m):=by
 have hpos:=List.length_pos_iff.2 hr
 have hf:=(stepP_fits r hr).2
 conv=>lhs;unfold relP rel
 rw [if_neg hr]
 cases hs:stepP r with
 | bad j=>rfl
 | blank=>dsimp only;unfold relP;rw [rel_fuel _ ((r.drop 1).length+1) (r.drop 1) (by rw [List.length_drop];omega) (by omega)]
 | tok kd t n=>
   obtain ⟨h1,h2⟩:=hf kd t n hs
   dsimp only
   unfold relP
   rw [rel_fuel _ ((r.drop n).length+1) (r.drop n) (by rw [List.length_drop];omega) (by omega)]
def endOf (a c:Nat) (acc:List Tok) (L:Nat):Rel->List Tok×Nat×Int
 | .inl j=>([],a+j,10)
 | .inr (ts,m)=>(acc++ts.map (Tok.sh a c) ++ [⟨0,[],a+L,c+m⟩],0,0)
theorem lexF_rel:∀ (k:Nat) (r:List UInt8) (a c:Nat) (acc:List Tok),r.length<k->lexF k r a c acc=endOf a c acc r.length (relP r)
 | 0,r,a,c,acc,h=>by omega
 | k+1,r,a,c,acc,h=>by
   unfold lexF
   by_cases hr:r = []
   ·subst hr
    rw [if_pos rfl,relP_nil]
    simp [endOf]
   rw [if_neg hr,relP_step hr]
   have hpos:=List.length_pos_iff.2 hr
   have hf:=(stepP_fits r hr).2
   cases hs:stepP r with
   | bad j=>rfl
   | blank=>
     dsimp only
     rw [lexF_rel k (r.drop 1) _ _ _ (by rw [List.length_drop];omega),List.length_drop]
     cases relP (r.drop 1) with
     | inl j=>simp only [Rel.sh,endOf];rw [Nat.add_assoc]
     | inr x=>
       obtain ⟨ts,m⟩:=x
       simp only [Rel.sh,endOf,List.map_map]
       rw [show a+1+(r.length-1)=a+r.length by omega,Nat.add_assoc c 1 m]
       congr 4
       funext t
       simp [Tok.sh,Nat.add_comm,Nat.add_left_comm,Function.comp]
   | tok kd t n=>
     obtain ⟨h1,h2⟩:=hf kd t n hs
     dsimp only
     rw [lexF_rel k (r.drop n) _ _ _ (by rw [List.length_drop];omega),List.length_drop]
     cases relP (r.drop n) with
     | inl j=>simp only [Rel.sh,endOf];rw [Nat.add_assoc]
     | inr x=>
       obtain ⟨ts,m⟩:=x
       simp only [Rel.sh,endOf,List.map_map,List.map_cons,List.append_assoc,List.cons_append,List.nil_append]
       rw [show a+n+(r.length-n)=a+r.length by omega,Nat.add_assoc c _ m]
       have e:Tok.sh (a+n) (c+signsN (r.take n))=Tok.sh a c ∘ Tok.sh n (signsN (r.take n)):=by
        funext t
        simp [Tok.sh,Nat.add_comm,Nat.add_left_comm,Function.comp]
       have e0:Tok.sh a c ⟨kd,t,0,0⟩=⟨kd,t,a,c⟩:=by simp [Tok.sh]
       rw [e,e0]
theorem lexP_rel {s:List UInt8} (h:s.length<=2000):lexP s=endOf 0 0 [] s.length (relP s):=by
 unfold lexP
 rw [if_neg (by omega),lexF_rel _ _ _ _ _ (by omega)]
end Go.A
namespace Go.A
open Go.Proofs Go.Lib
theorem sgF_fuel:∀ (k k':Nat) (r:List UInt8),r.length<k->r.length<k'->sgF k r=sgF k' r
 | 0,_,r,h,_=>by omega
 | _+1,0,r,_,h=>by omega
 | k+1,k'+1,r,h,h'=>by
   unfold sgF
   by_cases hr:r = []
   ·rw [if_pos hr,if_pos hr]
   have hpos:=List.length_pos_iff.2 hr
   have hw:=decodeL_width r
   rw [if_neg hr,if_neg hr,sgF_fuel k k' _ (by rw [List.length_drop];omega) (by rw [List.length_drop];omega)]
def sgP (r:List UInt8):Option Nat:=sgF (r.length+1) r
theorem sgP_nil:sgP []=some 0:=rfl
theorem sgP_step {r:List UInt8} (hr:r ≠ []):sgP r=if decodeL r=(65533,1) then none else (sgP (r.drop (decodeL r).2)).map (· + 1):=by
 have hpos:=List.length_pos_iff.2 hr
 have hw:=decodeL_width r
 conv=>lhs;unfold sgP sgF
 unfold sgP
 rw [if_neg hr,sgF_fuel r.length ((r.drop (decodeL r).2).length+1) _ (by rw [List.length_drop];omega) (by omega)]
def cnt:Nat->List UInt8->Nat
 | 0,_=>0
 | k+1,r=>if r = [] then 0 else 1+cnt k (r.drop (decodeL r).2)
theorem runeCount_cnt (l:List UInt8):∀ (k pos:Nat),runeCountFrom ⟨⟨l⟩⟩ k pos=cnt k (l.drop pos)
 | 0,_=>rfl
 | k+1,pos=>by
   unfold runeCountFrom cnt
   have e:(⟨⟨l⟩⟩:ByteArray).size=l.length:=rfl
   rw [e]
   by_cases h:pos<l.length
   ·have hne:l.drop pos ≠ []:=by
     intro h2
     have:=congrArg List.length h2
     simp at this
     omega
    have hd:=decodeL_drop ⟨⟨l⟩⟩ pos
    have hd:decodeL (l.drop pos)=Utf8.decode ⟨⟨l⟩⟩ pos:=hd
    rw [if_pos h,if_neg hne,runeCount_cnt l k,hd,List.drop_drop]
   ·rw [if_neg h,if_pos (List.drop_eq_nil_of_le (by omega))]
theorem cnt_fuel:∀ (k k':Nat) (r:List UInt8),r.length<=k->r.length<=k'->cnt k r=cnt k' r
 | 0,k',r,h,_=>by
   have:r = []:=List.eq_nil_of_length_eq_zero (by omega)
   subst this
   cases k'<;>simp [cnt]
 | k+1,0,r,_,h=>by
   have:r = []:=List.eq_nil_of_length_eq_zero (by omega)
   subst this
   simp [cnt]
 | k+1,k'+1,r,h,h'=>by
   unfold cnt
   by_cases hr:r = []
   ·rw [if_pos hr,if_pos hr]
   have hpos:=List.length_pos_iff.2 hr
   have hw:=decodeL_width r
   rw [if_neg hr,if_neg hr,cnt_fuel k k' _ (by rw [List.length_drop];omega) (by rw [List.length_drop];omega)]
theorem signsN_step {r:List UInt8} (hr:r ≠ []):signsN r=1+signsN (r.drop (decodeL r).2):=by
 have hpos:=List.length_pos_iff.2 hr
 have hw:=decodeL_width r
 unfold signsN runeCount
 rw [runeCount_cnt,runeCount_cnt,List.drop_zero,List.drop_zero]
 have e1:(⟨⟨r⟩⟩:ByteArray).size=r.length:=rfl
 have e2:(⟨⟨r.drop (decodeL r).2⟩⟩:ByteArray).size=(r.drop (decodeL r).2).length:=rfl
 rw [e1,e2]
 obtain ⟨k,hk⟩:∃ k,r.length=k+1:=⟨r.length-1,by omega⟩
 rw [hk,cnt,if_neg hr]
 rw [cnt_fuel k _ _ (by rw [List.length_drop];omega) (Nat.le_refl _)]
inductive Sg:List UInt8->Nat->Prop
 | nil:Sg [] 0
 | cons {y z:List UInt8} {c n:Nat}:y ≠ []->(∀ t,decodeL (y++t)=(c,y.length))->(c,y.length)≠(65533,1)->Sg z n->Sg (y++z) (n+1)
theorem Sg.app {x:List UInt8} {n:Nat} (h:Sg x n) (t:List UInt8):sgP (x++t)=(sgP t).map (· + n)/\signsN (x++t)=n+signsN t:=by
 induction h with
 | nil=>simp
 | cons h1 h2 h3 _ ih=>
   rename_i y z c n _
   obtain ⟨i1,i2⟩:=ih
   have hne:(y++z)++t ≠ []:=by simp [h1]
   have hd:decodeL ((y++z)++t)=(c,y.length):=by rw [List.append_assoc];exact h2 _
   have hdr:((y++z)++t).drop y.length=z++t:=by rw [List.append_assoc,List.drop_left]
   rw [sgP_step hne,hd,if_neg h3,hdr,i1,signsN_step hne,hd,hdr,i2]
   refine ⟨?_,by omega⟩
   cases sgP t<;>simp [Nat.add_assoc]
theorem Sg.join {x z:List UInt8} {n m:Nat} (h:Sg x n) (k:Sg z m):Sg (x++z) (n+m):=by
 induction h with
 | nil=>simpa using k
 | cons h1 h2 h3 _ ih=>
   rw [List.append_assoc,Nat.add_right_comm]
   exact .cons h1 h2 h3 ih
theorem Sg.ascii:∀ x:List UInt8,(∀ c∈x,c.toNat<128)->Sg x x.length
 | [],_ => .nil
 | c::x,h=>by
   have hc:=h c (by simp)
   exact .cons (y := [c]) (by simp) (fun t=>dec_one c t hc) (by rw [ne_eq,Prod.mk.injEq];omega) (Sg.ascii x fun d hd=>h d (by simp [hd]))
theorem Sg.one {r:List UInt8} (hr:r ≠ []) (hv:decodeL r≠(65533,1)):Sg (r.take (decodeL r).2) 1:=by
 have hle:=decodeL_le r hr
 have hw:=decodeL_width r
 have hl:(r.take (decodeL r).2).length=(decodeL r).2:=List.length_take_of_le hle
 have:=Sg.cons (y:=r.take (decodeL r).2) (z := []) (c:=(decodeL r).1) (n:=0) (by
  intro h
  rw [h] at hl
  simp at hl
  omega) (fun t=>by rw [hl];exact decode_whole hr rfl hv t) (by rw [hl];exact hv) .nil
 simpa using this
theorem runL_all2 (p:UInt8->Bool):∀ l:List UInt8,∀ c∈l.take (runL p l),p c=true
 | [],c,h=>by simp [runL] at h
 | x::l,c,h=>by
   unfold runL at h
   split at h
   ·rename_i hx
    rw [List.take_succ_cons,List.mem_cons] at h
    rcases h with rfl|h
    ·exact hx
    ·exact runL_all2 p l c h
   ·simp at h
end Go.A
namespace Go.A
open Go.Proofs Go.Lib
abbrev KT:=Int×List UInt8
def kt (t:Tok):KT:=(t.kind,t.text)
def kts:Rel->Option (List KT)
 | .inl _=>none
 | .inr (ts,_)=>some (ts.map kt)
theorem kts_step {x y:List UInt8} (hx:x ≠ []) {k:Int} {t:List UInt8} (h:stepP (x++y) = .tok k t x.length):kts (relP (x++y))=(kts (relP y)).map ([(k,t)] ++ ·):=by
 rw [relP_step (by simp [hx]),h]
 dsimp only
 rw [List.drop_left]
 cases hr:relP y with
 | inl j=>rfl
 | inr v=>simp [Rel.sh,kts,Function.comp_def,Tok.sh,kt]
def Lx (P:List UInt8->Prop) (x:List UInt8) (ts:List KT):Prop:=∀ y,P y->kts (relP (x++y))=(kts (relP y)).map (ts ++ ·)
theorem Lx.one {P:List UInt8->Prop} {x:List UInt8} {k:Int} {t:List UInt8} (hx:x ≠ []) (h:∀ y,P y->stepP (x++y) = .tok k t x.length):Lx P x [(k,t)]:=fun y hy=>kts_step hx (h y hy)
def NoW (y:List UInt8):Prop:=∀ c t,y=c::t->wordB c=false
/-! Single steps. -/
/-! Words. -/
theorem word_lt (c:UInt8) (h:wordB c=true):c.toNat<128/\c.toNat≠32/\c.toNat≠9/\c.toNat≠10:=by
 unfold wordB at h
 simp only [decide_eq_true_eq] at h
 omega
theorem step_word {w y:List UInt8} (hw:w ≠ []) (ha:∀ c∈w,wordB c=true) (hy:NoW y):stepP (w++y)=if numB w then .tok 1 w w.length else if refB w then .tok 4 (greatP w) w.length else if nameB w then .tok 3 (greatP w) w.length else .bad 0:=by
 obtain ⟨c,v,rfl⟩:∃ c v,w=c::v:=by
  cases w with
  | nil=>exact absurd rfl hw
  | cons c v=>exact ⟨c,v,rfl⟩
 have hc:=ha c (by simp)
 obtain ⟨h1,h2,h3,h4⟩:=word_lt c hc
 have hd:decodeL (c::v++y)=(c.toNat,1):=dec_one c _ h1
 have hr:runL wordB (c::v++y)=(c::v).length:=runL_app (fun d hd=>by
  cases y with
  | nil=>cases hd
  | cons e t=>injection hd with hd;subst hd;exact hy e t rfl) ha
 have hu:UInt8.ofNat c.toNat=c:=by simp
 have ht:(c::v++y).take (c::v).length=c::v:=List.take_left
 unfold stepP wordsS
 rw [hd]
 dsimp only
 rw [if_neg (by intro e;injection e with e _;omega),if_neg (by omega),hu,if_pos ⟨h1,hc⟩,hr,ht]
structure NameOk (w:List UInt8):Prop where
 word:∀ c∈w,wordB c=true
 name:nameB w=true
 num:numB w=false
 ref:refB w=false
 great:greatP w=w
theorem lx_name {w:List UInt8} (h:NameOk w):Lx NoW w [(3,w)]:=Lx.one (nameB_ne h.name) fun y hy=>by rw [step_word (nameB_ne h.name) h.word hy,if_neg (by simp [h.num]),if_neg (by simp [h.ref]),if_pos h.name,h.great]
/-! Numbers. -/
/-! References. -/
/-! Errors. -/
/-! Texts between quotes. -/
end Go.A
namespace Go.A
open Go.Proofs Go.Lib
inductive Nf:Nd->Prop
 | num {n:Int}:0<=n->n<=999999999999999999->Nf (.mk 1 n [] .zero .zero [])
 | text {s:List UInt8}:sgP s≠none->s.length<=8100->Nf (.mk 2 0 s .zero .zero [])
 | truth {b:Int}:b=0\/b=1->Nf (.mk 3 b [] .zero .zero [])
 | fail {k:Nat}:k<7->Nf (.mk 4 (((k:Int)+1)*10000) [] .zero .zero [])
 | cell {r:Ref}:r.good=true->Nf (.mk 5 0 [] r .zero [])
 | area {r q:Ref}:r.good=true->q.good=true->Nf (.mk 6 0 [] r q [])
 | sign {op:Int} {x:Nd}:op=7\/op=8->Nf x->x.op≠23->Nf (.mk op 0 [] .zero .zero [x])
 | hund {x:Nd}:Nf x->x.op≠23->Nf (.mk 9 0 [] .zero .zero [x])
 | bin {i:Nat} {x y:Nd}:i<12->Nf x->x.op≠23->Nf y->y.op≠23->Nf (.mk (10+(i:Int)) 0 [] .zero .zero [x,y])
 | call {s:List UInt8} {ks:List Nd}:NameOk s->s.length<=8100->(∀ k∈ks,Nf k)->(∀ k,ks = [k]->k.op≠23)->Nf (.mk 22 0 s .zero .zero ks)
 | miss:Nf (.mk 23 0 [] .zero .zero [])
theorem flat_snd {α:Type} (c:α) (f:Nd->List α) (l:List Nd):(l.map fun x=>(x.op,f x)).flatMap (fun q=>c::q.2)=l.flatMap fun x=>c::f x:=by
 rw [List.flatMap_map]
def insD (least op:Int) (d:Nat):Nat:=if least<=levelP op then d else d+1
def nestK (op:Int) (ks:List (Int×Nat)):Nat:=
 if op=7\/op=8 then 1+insD 6 (ks.getD 0 (0,0)).1 (ks.getD 0 (0,0)).2
 else if op=9 then insD 7 (ks.getD 0 (0,0)).1 (ks.getD 0 (0,0)).2
 else if op=22 then 1+(ks.map (·.2)).foldr max 0
 else if 10<=op/\op<=21 then max (insD (levelP op) (ks.getD 0 (0,0)).1 (ks.getD 0 (0,0)).2) (insD (levelP op+1) (ks.getD 1 (0,0)).1 (ks.getD 1 (0,0)).2) else 0
mutual
def Nd.nest:Nd->Nat
 | .mk op _ _ _ _ kids=>nestK op (Nd.nests kids)
def Nd.nests:List Nd->List (Int×Nat)
 | [] => []
 | x::xs=>(x.op,x.nest)::Nd.nests xs
end
theorem Nd.nests_map:∀ l:List Nd,Nd.nests l=l.map fun x=>(x.op,x.nest)
 | []=>rfl
 | x::xs=>by rw [Nd.nests,Nd.nests_map xs];rfl
theorem lev_bin (i:Nat) (h:i<12):1<=levelP (10+(i:Int))/\levelP (10+(i:Int))<=5:=by
 unfold levelP
 rw [if_neg (by omega),if_neg (by omega),if_neg (by omega)]
 repeat' split
 all_goals decide
theorem spell_bin {i:Nat} (h:i<12) (x y:Nd):(Nd.mk (10+(i:Int)) 0 [] .zero .zero [x,y]).spell=insT (levelP (10+i)) x.op x.spell++signL.getD i []++insT (levelP (10+i)+1) y.op y.spell:=by
 rw [Nd.spell,Nd.spells,Nd.spells,Nd.spells,spellK]
 rw [if_neg (by omega),if_neg (by omega),if_neg (by omega),if_neg (by omega),if_neg (by omega),if_neg (by omega),if_neg (by omega),if_neg (by omega),if_neg (by omega),if_neg (by omega),show (10+(i:Int)-10).toNat=i by omega]
 rfl
theorem nest_bin {i:Nat} (h:i<12) (x y:Nd):(Nd.mk (10+(i:Int)) 0 [] .zero .zero [x,y]).nest=max (insD (levelP (10+i)) x.op x.nest) (insD (levelP (10+i)+1) y.op y.nest):=by
 rw [Nd.nest,Nd.nests,Nd.nests,Nd.nests,nestK]
 rw [if_neg (by omega),if_neg (by omega),if_neg (by omega),if_pos (by omega)]
 rfl
theorem spell_sign {op:Int} (h:op=7\/op=8) (x:Nd):(Nd.mk op 0 [] .zero .zero [x]).spell = [if op=7 then 45 else 43]++insT 6 x.op x.spell:=by
 rcases h with rfl|rfl<;>rfl
theorem nest_sign {op:Int} (h:op=7\/op=8) (x:Nd):(Nd.mk op 0 [] .zero .zero [x]).nest=1+insD 6 x.op x.nest:=by
 rcases h with rfl|rfl<;>rfl
theorem spell_hund (x:Nd):(Nd.mk 9 0 [] .zero .zero [x]).spell=insT 7 x.op x.spell ++ [37]:=rfl
theorem nest_hund (x:Nd):(Nd.mk 9 0 [] .zero .zero [x]).nest=insD 7 x.op x.nest:=rfl
def joinS (ks:List Nd):List UInt8:=match ks with
 | [] => []
 | x::xs=>x.spell++xs.flatMap fun k=>44::k.spell
theorem spell_call (s:List UInt8) (ks:List Nd):(Nd.mk 22 0 s .zero .zero ks).spell=s++([40]++(joinS ks ++ [41])):=by
 rw [Nd.spell,Nd.spells_map]
 show s++40::joinC _ ++ [41]=_
 cases ks with
 | nil=>simp [joinC,joinS]
 | cons x xs=>
   rw [List.map_cons,joinC,flat_snd]
   simp [joinS]
theorem nest_call (s:List UInt8) (ks:List Nd):(Nd.mk 22 0 s .zero .zero ks).nest=1+(ks.map Nd.nest).foldr max 0:=by
 rw [Nd.nest,Nd.nests_map]
 show 1+((ks.map fun x=>(x.op,x.nest)).map (·.2)).foldr max 0=_
 rw [List.map_map]
 rfl
theorem fail_text {k:Nat} (h:k<7):failT 4 (((k:Int)+1)*10000)=errL.getD k []:=by
 unfold failT
 rw [Int.mul_tdiv_cancel _ (by decide),if_neg (by omega),show ((k:Int)+1-1).toNat=k by omega]
end Go.A
namespace Go.A
open Go.Proofs Go.Lib
/-! Such texts' tokens. -/
end Go.A
namespace Go.A
open Go.Proofs Go.Lib
section
variable {T:List Tok}
variable (T)
variable {T}
/-! A kid,in brackets if it binds less closely. -/
/-! Leaves. -/
/-! Nodes with kids. -/
/-! Calls. -/
end
end Go.A
namespace Go.A
open Go.Proofs Go.Lib
/-! Great letters. -/
theorem byte_all {P:UInt8->Prop} [∀ c,Decidable (P c)] (h:(List.range 256).all (fun n=>decide (P (UInt8.ofNat n)))=true) (c:UInt8):P c:=by
 have:=List.all_eq_true.1 h c.toNat (List.mem_range.2 c.toNat_lt)
 simpa using this
theorem gr_letter (c:UInt8):letterP (greatC c).toNat=letterP c.toNat:=byte_all (P:=fun c=>letterP (greatC c).toNat=letterP c.toNat) (by decide +kernel) c
theorem gr_isL (c:UInt8):isL (greatC c)=isL c:=byte_all (P:=fun c=>isL (greatC c)=isL c) (by decide +kernel) c
theorem gr_isD (c:UInt8):isD (greatC c)=isD c/\(isD c=true->greatC c=c):=byte_all (P:=fun c=>isD (greatC c)=isD c/\(isD c=true->greatC c=c)) (by decide +kernel) c
theorem gr_sign (c:UInt8):((greatC c).toNat=48↔c.toNat=48)/\((greatC c).toNat=36↔c.toNat=36)/\((greatC c).toNat=46↔c.toNat=46)/\(((greatC c).toNat:Int)=95↔(c.toNat:Int)=95):=byte_all (P:=fun c=>((greatC c).toNat=48↔c.toNat=48)/\((greatC c).toNat=36↔c.toNat=36)/\((greatC c).toNat=46↔c.toNat=46)/\(((greatC c).toNat:Int)=95↔(c.toNat:Int)=95)) (by decide +kernel) c
theorem gr_word (c:UInt8):wordB (greatC c)=wordB c/\digB (greatC c)=digB c/\greatC (greatC c)=greatC c:=byte_all (P:=fun c=>wordB (greatC c)=wordB c/\digB (greatC c)=digB c/\greatC (greatC c)=greatC c) (by decide +kernel) c
theorem great_idem (l:List UInt8):greatP (greatP l)=greatP l:=by
 unfold greatP
 rw [List.map_map]
 exact List.map_congr_left fun c _=>(gr_word c).2.2
theorem runL_great (p:UInt8->Bool) (hp:∀ c,p (greatC c)=p c):∀ l,runL p (greatP l)=runL p l
 | []=>rfl
 | c::l=>by
   show runL p (greatC c::greatP l)=_
   rw [runL,runL,hp,runL_great p hp l]
theorem numF_great:∀ (l:List UInt8) (n:Int),numF n (greatP l)=numF n l
 | [],n=>rfl
 | c::l,n=>by
   show numF n (greatC c::greatP l)=_
   rw [numF,numF,(gr_isD c).1]
   by_cases h:isD c=true
   ·rw [if_pos h,if_pos h,(gr_isD c).2 h,numF_great l]
   ·rw [if_neg h,if_neg h]
theorem atP_great (l:List UInt8) (i:Nat):(atP (greatP l) i=48↔atP l i=48)/\(atP (greatP l) i=36↔atP l i=36)/\(atP (greatP l) i=95↔atP l i=95)/\letterP (atP (greatP l) i)=letterP (atP l i):=by
 unfold atP greatP
 rw [List.getElem?_map]
 cases l[i]? with
 | none=>exact ⟨Iff.rfl,Iff.rfl,Iff.rfl,rfl⟩
 | some c=>
   obtain ⟨h1,h2,h3,h4⟩:=gr_sign c
   simp only [Option.map_some]
   exact ⟨by omega,by omega,h4,gr_letter c⟩
theorem great_drop (l:List UInt8) (i:Nat):(greatP l).drop i=greatP (l.drop i):=by unfold greatP;rw [List.map_drop]
theorem great_take (l:List UInt8) (i:Nat):(greatP l).take i=greatP (l.take i):=by unfold greatP;rw [List.map_take]
theorem colF_gr:∀ (l:List UInt8) (n:Int),colF n (greatP l)=colF n l
 | [],n=>rfl
 | c::l,n=>by
   show colF n (greatC c::greatP l)=_
   rw [colF,colF,gr_letter]
   split
   ·rfl
   ·exact colF_gr l _
theorem columnP_gr (l:List UInt8):columnP (greatP l)=columnP l:=by unfold columnP;rw [colF_gr]
theorem readQ_gr (l:List UInt8) (i:Nat) (col:Int) (ar ac:Bool):readQ (greatP l) i col ar ac=readQ l i col ar ac:=by
 unfold readQ
 rw [great_drop,numF_great,runL_great isD fun c=>(gr_isD c).1]
 obtain ⟨a1,_,_,_⟩:=atP_great l i
 obtain ⟨_,_,b3,b4⟩:=atP_great l (i+runL isD (l.drop i))
 rw [b4]
 simp only [a1,b3]
theorem readR_gr (l:List UInt8) (i:Nat) (ac:Bool):readR (greatP l) i ac=readR l i ac:=by
 unfold readR
 rw [great_drop,runL_great isL gr_isL,great_take,great_drop,columnP_gr,readQ_gr,readQ_gr]
 simp only [(atP_great l (i+runL isL (l.drop i))).2.1]
theorem readP_gr (l:List UInt8):readP (greatP l)=readP l:=by
 unfold readP
 rw [readR_gr,readR_gr]
 simp only [(atP_great l 0).2.1]
theorem refB_gr (l:List UInt8):refB (greatP l)=refB l:=by
 unfold refB parseP
 rw [readP_gr,greatP_len]
theorem cutDot_gr:∀ l:List UInt8,cutDot (greatP l)=(greatP (cutDot l).1,(cutDot l).2.map greatP)
 | []=>rfl
 | c::l=>by
   show cutDot (greatC c::greatP l)=_
   rw [cutDot,cutDot,cutDot_gr l]
   by_cases h:c.toNat=46
   ·rw [if_pos h,if_pos ((gr_sign c).2.2.1.2 h)];rfl
   ·rw [if_neg h,if_neg (fun e=>h ((gr_sign c).2.2.1.1 e))];rfl
theorem all_gr (l:List UInt8):(greatP l).all digB=l.all digB:=by
 unfold greatP
 rw [List.all_map]
 congr 1
 funext c
 exact (gr_word c).2.1
theorem ne_gr (l:List UInt8):decide (greatP l ≠ [])=decide (l ≠ []):=by
 cases l<;>rfl
theorem numB_gr (l:List UInt8):numB (greatP l)=numB l:=by
 unfold numB
 rw [cutDot_gr]
 cases h:cutDot l with
 | mk w o=>
   cases o with
   | none=>simp only [Option.map_none];rw [ne_gr,all_gr]
   | some p=>
     simp only [Option.map_some]
     have e:greatP w++greatP p=greatP (w++p):=by unfold greatP;rw [List.map_append]
     rw [ne_gr,ne_gr,greatP_len,e,all_gr]
theorem nameB_gr (l:List UInt8):nameB (greatP l)=nameB l:=by
 unfold nameB
 rw [ne_gr]
 have h1:(greatP l).all (fun c=>wordB c && decide (c.toNat≠36))=l.all (fun c=>wordB c && decide (c.toNat≠36)):=by
  unfold greatP
  rw [List.all_map]
  congr 1
  funext c
  show (wordB (greatC c) && _)=_
  rw [(gr_word c).1]
  congr 1
  exact decide_eq_decide.2 (not_congr (gr_sign c).2.1)
 rw [h1]
 congr 2
 cases l with
 | nil=>rfl
 | cons c l=>
   show (digB (greatC c) || decide ((greatC c).toNat=46))=(digB c || decide (c.toNat=46))
   rw [(gr_word c).2.1]
   congr 1
   exact decide_eq_decide.2 (gr_sign c).2.2.1
/-! What tokens hold. -/
theorem quotedF_whole:∀ (k:Nat) (r:List UInt8) (p:Nat) (acc:List UInt8) kd t n,quotedF k r p acc = .tok kd t n->(∃ c,Sg acc c)->∃ c,Sg t c
 | 0,r,p,acc,kd,t,n,h,_=>by simp [quotedF] at h
 | k+1,r,p,acc,kd,t,n,h,ha=>by
   obtain ⟨c0,ha⟩:=ha
   by_cases hr:r = []
   ·subst hr;rw [quotedF_nil] at h;simp at h
   unfold quotedF at h
   rw [if_neg hr] at h
   split at h
   ·simp at h
   rename_i hv
   split at h
   ·have henc:=encode_decode r hr (by rintro ⟨h1,h2⟩;exact hv (by rw [<-h1,← h2]))
    rw [henc] at h
    exact quotedF_whole k _ _ _ kd t n h ⟨_,ha.join (Sg.one hr hv)⟩
   split at h
   ·exact quotedF_whole k _ _ _ kd t n h ⟨_,ha.join (Sg.ascii [34] (by decide))⟩
   ·simp only [Step.tok.injEq] at h
    obtain ⟨_,rfl,_⟩:=h
    exact ⟨_,ha⟩
theorem Sg.some {t:List UInt8} {c:Nat} (h:Sg t c):sgP t≠none:=by
 have:=(h.app []).1
 rw [List.append_nil,sgP_nil] at this
 rw [this]
 simp
structure TokNf (t:Tok):Prop where
 text:t.kind=2->sgP t.text≠none
 name:t.kind=3->NameOk t.text
theorem TokNf.of {kd:Int} {t:List UInt8} {a c:Nat} (h2:kd=2->sgP t≠none) (h3:kd=3->NameOk t):TokNf ⟨kd,t,a,c⟩:=⟨h2,h3⟩
theorem stepP_nf (r:List UInt8) {kd:Int} {t:List UInt8} {n:Nat} (h:stepP r = .tok kd t n) (a c:Nat):TokNf ⟨kd,t,a,c⟩:=by
 unfold stepP at h
 dsimp only at h
 split at h
 ·simp at h
 split at h
 ·simp at h
 split at h
 ·unfold wordsS at h
  dsimp only at h
  have hall:=runL_all2 wordB r
  split at h
  ·simp only [Step.tok.injEq] at h
   obtain ⟨rfl,rfl,rfl⟩:=h
   exact .of (fun h=>no1 h (by decide)) (fun h=>no1 h (by decide))
  rename_i hnum
  split at h
  ·simp only [Step.tok.injEq] at h
   obtain ⟨rfl,rfl,rfl⟩:=h
   exact .of (fun h=>no1 h (by decide)) (fun h=>no1 h (by decide))
  rename_i href
  split at h
  ·rename_i hn
   simp only [Step.tok.injEq] at h
   obtain ⟨rfl,rfl,rfl⟩:=h
   refine .of (fun h=>no1 h (by decide)) fun _=>⟨?_,by rw [nameB_gr];exact hn,by rw [numB_gr];simpa using hnum,by rw [refB_gr];simpa using href,great_idem _⟩
   intro c hc
   obtain ⟨d,hd,rfl⟩:=List.mem_map.1 hc
   rw [(gr_word d).1]
   exact hall d hd
  ·simp at h
 split at h
 ·obtain ⟨rfl,h2⟩:=quotedF_len _ _ _ _ _ _ _ h
  obtain ⟨c,hc⟩:=quotedF_whole _ _ _ _ _ _ _ h ⟨0,.nil⟩
  exact .of (fun _=>hc.some) (fun h=>no1 h (by decide))
 split at h
 ·obtain ⟨rfl,h2⟩:=failS_gd _ _ _ _ _ h
  exact .of (fun h=>no1 h (by decide)) (fun h=>no1 h (by decide))
 ·have key:kd=6:=by
   unfold opS at h
   split at h
   ·simp only [Step.tok.injEq] at h
    exact h.1.symm
   ·split at h
    ·simp only [Step.tok.injEq] at h
     exact h.1.symm
    ·split at h
     ·simp only [Step.tok.injEq] at h
      exact h.1.symm
     ·simp at h
  subst key
  exact .of (fun h=>no1 h (by decide)) (fun h=>no1 h (by decide))
theorem lexF_nf:∀ (k:Nat) (r:List UInt8) (a c:Nat) (acc L:List Tok) (x:Nat),lexF k r a c acc=(L,x,0)->(∀ t∈acc,TokNf t)->∀ t∈L,TokNf t
 | 0,r,a,c,acc,L,x,h,hacc=>by simp [lexF] at h
 | k+1,r,a,c,acc,L,x,h,hacc=>by
   rw [lexF] at h
   split at h
   ·simp only [Prod.mk.injEq] at h
    obtain ⟨rfl,_⟩:=h
    intro t ht
    rcases List.mem_append.1 ht with ht|ht
    ·exact hacc t ht
    ·simp at ht;subst ht;exact .of (fun h=>no1 h (by decide)) (fun h=>no1 h (by decide))
   ·split at h
    ·simp at h
    ·exact lexF_nf k _ _ _ _ _ _ h hacc
    ·rename_i kd t n hst
     exact lexF_nf k _ _ _ _ _ _ h (fun u hu=>by
      rcases List.mem_append.1 hu with hu|hu
      ·exact hacc u hu
      ·simp at hu;subst hu;exact stepP_nf r hst a c)
theorem lex_nf {s:List UInt8} (h:(lexP s).2.2=0) (i:Nat):TokNf ((lexP s).1.getD i endT):=by
 have hall:∀ t∈(lexP s).1,TokNf t:=by
  unfold lexP at h ⊢
  split
  ·intro t ht;cases ht
  ·rename_i hl
   rw [if_neg hl] at h
   obtain ⟨R,hR⟩:∃ R,lexF (s.length+1) s 0 0 []=R:=⟨_,rfl⟩
   rw [hR] at h ⊢
   obtain ⟨L,x,e⟩:=R
   dsimp only at h ⊢
   subst h
   exact lexF_nf _ _ _ _ _ _ _ hR (by simp)
 rw [List.getD_eq_getElem?_getD]
 cases hi:(lexP s).1[i]? with
 | none=>exact .of (fun h=>no1 h (by decide)) (fun h=>no1 h (by decide))
 | some t=>exact hall t (List.mem_of_getElem? hi)
theorem numB_min {s:List UInt8} (h:numB s=true):s.head? ≠ some 45:=by
 intro e
 cases s with
 | nil=>cases e
 | cons c s=>
   injection e with e
   subst e
   unfold numB at h
   rw [cutDot,if_neg (by decide)] at h
   split at h
   ·rename_i w he
    injection he with h1 h2
    subst h1
    simp only [List.all_cons,Bool.and_eq_true] at h
    exact absurd h.2.1 (by decide)
   ·rename_i w p he
    injection he with h1 h2
    subst h1
    simp only [List.cons_append,List.all_cons,Bool.and_eq_true] at h
    exact absurd h.2.1 (by decide)
theorem parseD_pos {s:List UInt8} {v:Int} (hn:numB s=true) (h:parseD s=some v):0<=v:=by
 have hm:=numB_min hn
 unfold parseD at h
 dsimp only at h
 rw [if_neg hm,decide_eq_false hm] at h
 unfold parseQ at h
 split at h
 ·cases h
 ·obtain ⟨n,_,hn⟩:=Option.bind_eq_some_iff.1 h
  unfold madeP at hn
  split at hn
  ·injection hn with hn
   simp only [Bool.false_eq_true,if_false] at hn
   omega
  ·cases hn
/-! The parser's trees. -/
theorem insD_up {a b op:Int} {d:Nat} (h:a<=b):insD a op d<=insD b op d:=by
 unfold insD
 split<;>split<;>omega
theorem insD_le (a op:Int) (d:Nat):d<=insD a op d/\insD a op d<=d+1:=by
 unfold insD
 split<;>omega
theorem insD_top {a op:Int} {d:Nat} (h:a<=levelP op):insD a op d=d:=if_pos h
theorem sign_is {x:List UInt8} {l:Nat} (hl:l<5) (h:x∈levelsL.getD l []):levelP (10+idxP signL x)=l+1:=by
 have key:∀ l<5,∀ y∈levelsL.getD l [],levelP (10+idxP signL y)=l+1:=by decide
 exact key l hl x h
theorem op_mk (op n:Int) (s:List UInt8) (a b:Ref) (ks:List Nd):(Nd.mk op n s a b ks).op=op:=rfl
section
variable {T:List Tok}
def Okn (d:Int) (least:Int) (n:Nd):Prop:=Nf n/\n.op≠23/\d+insD least n.op n.nest<=40
structure NfF (T:List Tok) (f:Nat):Prop where
 betw:∀ (lvl:Nat) s r,betwP T f lvl s=some r->lvl<=5->Fit T s->r.2.err=0->Okn s.deep (lvl+1) r.1
 loop:∀ (lvl:Nat) n s r,loopP T f lvl n s=some r->lvl<5->Fit T s->r.2.err=0->Okn s.deep (lvl+1) n->Okn s.deep (lvl+1) r.1
 signed:∀ s r,signedP T f s=some r->Fit T s->r.2.err=0->Okn s.deep 6 r.1
 hundred:∀ s r,hundredP T f s=some r->Fit T s->r.2.err=0->Okn s.deep 7 r.1
 hloop:∀ n s r,hloopP T f n s=some r->Fit T s->r.2.err=0->Okn s.deep 7 n->Okn s.deep 7 r.1
 prim:∀ s r,primP T f s=some r->Fit T s->r.2.err=0->Okn s.deep 8 r.1
 name:∀ s r,nameP T f s=some r->Fit T s->(curT T s).kind=3->r.2.err=0->Okn s.deep 8 r.1
 args:∀ s r,argsP T f s=some r->Fit T s->r.2.err=0->(∀ x∈r.1,Nf x/\s.deep+x.nest<=40)/\∀ k,r.1 = [k]->k.op≠23
 aloop:∀ l s r,aloopP T f l s=some r->Fit T s->r.2.err=0->(∀ x∈l,Nf x/\s.deep+x.nest<=40)->(l = []->isOp T s [41]=false)->(∀ x∈r.1,Nf x/\s.deep+x.nest<=40)/\l.length<r.1.length/\∀ k,r.1 = [k]->k.op≠23
theorem Okn.leaf {d:Int} {n:Nd} (h:Nf n) (h2:levelP n.op=8) (h3:n.op≠23) (h0:n.nest=0) (hd:d<=40):Okn d 8 n:=⟨h,h3,by rw [insD_top (by omega),h0];omega⟩
theorem Okn.down {d a b:Int} {n:Nd} (h:Okn d b n) (hab:a<=b):Okn d a n:=⟨h.1,h.2.1,by have:=insD_up (op:=n.op) (d:=n.nest) hab;have:=h.2.2;omega⟩
theorem idx_sig {x:List UInt8} {l:Nat} (h:x∈levelsL.getD l []):∃ i:Nat,i<12/\idxP signL x=i:=by
 have:=sign_rng h
 exact ⟨(idxP signL x).toNat,by omega,by omega⟩
theorem nest_max (ks:List Nd) (m:Int) (h0:0<=m) (h:∀ x∈ks,(x.nest:Int)<=m):(((ks.map Nd.nest).foldr max 0:Nat):Int)<=m:=by
 induction ks with
 | nil=>simpa using h0
 | cons x ks ih=>
   have h1:=h x (by simp)
   have h2:=ih fun y hy=>h y (by simp [hy])
   rw [List.map_cons,List.foldr_cons]
   omega
theorem nfF (hT:Ends T) (hG:∀ i,(T.getD i endT).kind≠0->TokGd (T.getD i endT)) (hN:∀ i,TokNf (T.getD i endT)):∀ f,NfF T f
 | 0=>by
   constructor
   ·intro lvl s r h;simp only [betwP,reduceCtorEq] at h
   ·intro lvl n s r h;simp only [loopP,reduceCtorEq] at h
   ·intro s r h;simp only [signedP,reduceCtorEq] at h
   ·intro s r h;simp only [hundredP,reduceCtorEq] at h
   ·intro n s r h;simp only [hloopP,reduceCtorEq] at h
   ·intro s r h;simp only [primP,reduceCtorEq] at h
   ·intro s r h;simp only [nameP,reduceCtorEq] at h
   ·intro s r h;simp only [argsP,reduceCtorEq] at h
   ·intro l s r h;simp only [aloopP,reduceCtorEq] at h
 | f+1=>by
   have ih:=nfF hT hG hN f
   have W:=wentF hT f
   constructor
   ·intro lvl s r h hl hf h0
    rw [betwP] at h
    split at h
    ·rename_i h5;subst h5;exact ih.signed s r h hf h0
    ·split at h
     ·cases h
     ·rename_i h5 _ r1 h1
      have w1:=W.betw _ _ _ h1 hf
      have w2:=W.loop _ _ _ _ h w1.fit
      have g1:=ih.betw _ _ _ h1 (by omega) hf (w2.e0 h0)
      have g2:=ih.loop _ _ _ _ h (by omega) w1.fit h0 (by rw [w1.deep];exact g1.down (by omega))
      rw [w1.deep] at g2
      exact g2
   ·intro lvl n s r h hl hf h0 hn
    rw [loopP] at h
    split at h
    ·rename_i hk
     split at h
     ·cases h
     ·rename_i r1 h1
      have w0:=Went.next hT hf (sgn_kind hk)
      have w1:=W.betw _ _ _ h1 w0.fit
      have w2:=W.loop _ _ _ _ h w1.fit
      have g1:=ih.betw _ _ _ h1 (by omega) w0.fit (w2.e0 h0)
      have hs:(curT T s).text∈levelsL.getD lvl []:=by
       unfold sgn at hk
       simp only [Bool.and_eq_true,decide_eq_true_eq] at hk
       exact hk.2
      have hlv:=sign_is hl hs
      obtain ⟨i,hi,hix⟩:=idx_sig hs
      rw [hix] at h hlv
      have hd:r1.2.deep=s.deep:=by rw [w1.deep];rfl
      have hb:Okn s.deep (lvl+1) (.mk (10+(i:Int)) 0 [] .zero .zero [n,r1.1]):=by
       refine ⟨.bin hi hn.1 hn.2.1 g1.1 g1.2.1,by show 10+(i:Int)≠23;omega,?_⟩
       rw [nest_bin hi,op_mk,insD_top (show (lvl:Int)+1<=levelP (10+(i:Int)) by omega),hlv]
       have a1:=hn.2.2
       have a2:s.deep+insD ((lvl+1:Nat)+1) r1.1.op r1.1.nest<=40:=g1.2.2
       rw [show (((lvl+1:Nat):Int)+1)=(lvl:Int)+1+1 by omega] at a2
       omega
      have g2:=ih.loop _ _ _ _ h hl w1.fit h0 (by rw [hd];exact hb)
      rw [hd] at g2
      exact g2
    ·injection h with h;subst h;exact hn
   ·intro s r h hf h0
    rw [signedP] at h
    have one:∀ (op:Int) (r1:Nd×PSt),op=7\/op=8->isOp T s [if op=7 then 45 else 43]=true->signedP T f (stepP1 (enterP T s))=some r1->r1.2.err=0->Okn s.deep 6 (.mk op 0 [] .zero .zero [r1.1]):=by
     intro op r1 ho hk h1 he
     obtain ⟨e1,e2,e3⟩:=enter_fit hT hf (isOp_kind hk)
     have w1:=W.signed _ _ h1 e1
     have g1:=ih.signed _ _ h1 e1 he
     rw [e2] at g1
     refine ⟨.sign ho g1.1 g1.2.1,by show op≠23;omega,?_⟩
     rw [nest_sign ho,op_mk,insD_top (show (6:Int)<=levelP op by rcases ho with rfl|rfl<;>decide)]
     have:=g1.2.2
     omega
    split at h
    ·rename_i hk
     split at h
     ·cases h
     ·rename_i r1 h1
      injection h with h;subst h
      exact one 7 r1 (.inl rfl) hk h1 h0
    split at h
    ·rename_i hk
     split at h
     ·cases h
     ·rename_i r1 h1
      injection h with h;subst h
      exact one 8 r1 (.inr rfl) hk h1 h0
    ·exact (ih.hundred _ _ h hf h0).down (by decide)
   ·intro s r h hf h0
    rw [hundredP] at h
    split at h
    ·cases h
    ·rename_i r1 h1
     have w1:=W.prim _ _ h1 hf
     have w2:=W.hloop _ _ _ h w1.fit
     have g1:=ih.prim _ _ h1 hf (w2.e0 h0)
     have g2:=ih.hloop _ _ _ h w1.fit h0 (by rw [w1.deep];exact g1.down (by decide))
     rw [w1.deep] at g2
     exact g2
   ·intro n s r h hf h0 hn
    rw [hloopP] at h
    split at h
    ·rename_i hk
     have w0:=Went.next hT hf (isOp_kind hk)
     have g:=ih.hloop _ _ _ h w0.fit h0
     refine g ⟨.hund hn.1 hn.2.1,by show (9:Int)≠23;decide,?_⟩
     rw [nest_hund,op_mk,insD_top (show (7:Int)<=levelP 9 by decide)]
     exact hn.2.2
    ·injection h with h;subst h;exact hn
   ·intro s r h hf h0
    have hd:=hf.d2
    have hgd:(curT T s).kind≠0->TokGd (curT T s)/\TokNf (curT T s)/\s.deep<=40:=fun hk=>by
     have he:=cur_err hk
     rw [cur_at he] at hk ⊢
     exact ⟨hG _ hk,hN _,hd he⟩
    rw [primP] at h
    split at h
    ·rename_i hk
     obtain ⟨t1,t2,t3⟩:=hgd (by omega)
     split at h
     ·injection h with h;subst h;exact absurd h0 fun h=>fail_err (by decide) h
     ·rename_i v hv
      injection h with h;subst h
      have:=parseD_rng hv
      have:=parseD_pos (t1.num hk) hv
      exact Okn.leaf (.num (by omega) (by omega)) rfl (show (1:Int)≠23 by decide) rfl t3
    split at h
    ·rename_i hk
     obtain ⟨t1,t2,t3⟩:=hgd (by omega)
     injection h with h;subst h
     exact Okn.leaf (.text (t2.text hk) t1.len) rfl (show (2:Int)≠23 by decide) rfl t3
    split at h
    ·rename_i hk
     obtain ⟨t1,t2,t3⟩:=hgd (by omega)
     injection h with h;subst h
     have hr:=fault_rng (t1.err hk)
     obtain ⟨k,hk7,hke⟩:∃ k:Nat,k<7/\idxP errL (curT T s).text=k:=⟨(idxP errL (curT T s).text).toNat,by omega,by omega⟩
     rw [hke]
     exact Okn.leaf (.fail hk7) rfl (show (4:Int)≠23 by decide) rfl t3
    split at h
    ·rename_i hk
     obtain ⟨t1,t2,t3⟩:=hgd (by omega)
     injection h with h;subst h
     unfold areaP at h0 ⊢
     split at h0
     ·rename_i ho
      rw [if_pos ho]
      exact Okn.leaf (.cell (parseP_good _)) rfl (show (5:Int)≠23 by decide) rfl t3
     ·rename_i ho
      rw [if_neg ho]
      split at h0
      ·exact absurd h0 fun h=>fail_err (by decide) h
      ·rename_i hk2
       rw [if_neg hk2]
       exact Okn.leaf (.area (parseP_good _) (parseP_good _)) rfl (show (6:Int)≠23 by decide) rfl t3
    split at h
    ·rename_i hk
     exact ih.name _ _ h hf hk h0
    split at h
    ·rename_i hk
     split at h
     ·cases h
     ·rename_i r1 h1
      injection h with h;subst h
      obtain ⟨e1,e2,e3⟩:=enter_fit hT hf (isOp_kind hk)
      obtain ⟨m1,m2⟩:=must_i (T:=T) (s:=r1.2) (x := [41]) h0
      have g1:=ih.betw _ _ _ h1 (by omega) e1 m1
      rw [e2] at g1
      refine ⟨g1.1,g1.2.1,?_⟩
      have:=g1.2.2
      have:=(insD_le (((0:Nat):Int)+1) r1.1.op r1.1.nest).1
      have:=(insD_le 8 r1.1.op r1.1.nest).2
      dsimp only
      omega
    ·injection h with h;subst h;exact absurd h0 fun h=>fail_err (by decide) h
   ·intro s r h hf hk3 h0
    have he0:s.err=0:=cur_err (T:=T) (by omega)
    have hn:=hf.next hT (by omega)
    have hd:=hf.d2 he0
    have hnf:TokNf (curT T s):=by rw [cur_at he0];exact hN _
    have hgd:TokGd (curT T s):=by
     have hk:(curT T s).kind≠0:=by omega
     rw [cur_at he0] at hk ⊢
     exact hG _ hk
    rw [nameP] at h
    split at h
    ·rename_i hk
     split at h
     ·rename_i he
      injection h with h;subst h
      exact absurd h0 he
     ·rename_i he
      split at h
      ·cases h
      ·rename_i r1 h1
       injection h with h;subst h
       obtain ⟨g1,g2,g3,_⟩:=enter2 hT hf (by omega) (by simpa using he)
       have hl:=hT.more (s.i+1) hn.1.i (by omega)
       have g4:Fit T (enterP T s).next.next:=⟨by show (enterP T s).i+1+1<_;omega,g1.d0,g1.d1,g1.d2⟩
       obtain ⟨k1,k2⟩:=ih.args _ _ h1 g4 h0
       have hdd:(enterP T s).next.next.deep=s.deep+1:=by
        show (enterP T s).deep=_
        unfold enterP
        split
        ·unfold failP;split<;>rfl
        ·rfl
       rw [hdd] at k1
       have hen:s.deep+1<=40:=by
        rcases Int.lt_or_le 40 (s.deep+1) with h40|h40
        ·exfalso
         apply he
         unfold enterP
         rw [if_pos h40]
         unfold failP
         simp [he0]
        ·exact h40
       refine ⟨.call (hnf.name hk3) hgd.len (fun k hk'=>(k1 k hk').1) k2,by show (22:Int)≠23;decide,?_⟩
       rw [op_mk,insD_top (show (8:Int)<=levelP 22 by decide),nest_call]
       have:=nest_max r1.1 (40-(s.deep+1)) (by omega) (fun x hx=>by have:=(k1 x hx).2;omega)
       omega
    split at h
    ·injection h with h;subst h
     exact Okn.leaf (.truth (.inr rfl)) rfl (show (3:Int)≠23 by decide) rfl hd
    split at h
    ·injection h with h;subst h
     exact Okn.leaf (.truth (.inl rfl)) rfl (show (3:Int)≠23 by decide) rfl hd
    ·injection h with h;subst h;exact absurd h0 fun h=>fail_err (by decide) h
   ·intro s r h hf h0
    rw [argsP] at h
    split at h
    ·injection h with h;subst h
     exact ⟨fun x hx=>(by cases hx),fun k hk=>(by cases hk)⟩
    ·rename_i hk
     obtain ⟨k1,_,k3⟩:=ih.aloop _ _ _ h hf h0 (fun x hx=>(by cases hx)) (fun _=>by simpa using hk)
     exact ⟨k1,k3⟩
   ·intro l s r h hf h0 hl hb
    rw [aloopP] at h
    split at h
    ·rename_i he
     injection h with h;subst h;exact absurd h0 he
    ·rename_i he
     have hd:=hf.d2 (by simpa using he)
     split at h
     ·cases h
     ·rename_i r1 h1
      have w1:Went T s r1.2:=by
       split at h1
       ·injection h1 with h1;subst h1;exact Went.refl hf
       ·exact W.betw _ _ _ h1 hf
      have key:r1.2.err=0->(Nf r1.1/\s.deep+r1.1.nest<=40):=fun k0=>by
       split at h1
       ·injection h1 with h1;subst h1
        exact ⟨.miss,by show s.deep+((0:Nat):Int)<=40;omega⟩
       ·obtain ⟨k1,k2,k3⟩:=ih.betw _ _ _ h1 (by omega) hf k0
        have:=(insD_le (((0:Nat):Int)+1) r1.1.op r1.1.nest).1
        exact ⟨k1,by omega⟩
      have hmem:(Nf r1.1/\s.deep+r1.1.nest<=40)->∀ x∈l ++ [r1.1],Nf x/\s.deep+x.nest<=40:=fun k x hx=>by
       rcases List.mem_append.1 hx with hx|hx
       ·exact hl x hx
       ·simp at hx;subst hx;exact k
      split at h
      ·rename_i hk
       have w2:=Went.next hT w1.fit (isOp_kind hk)
       have w3:=W.aloop _ _ _ h w2.fit
       have k1:=key (w2.e0 (w3.e0 h0))
       have hdd:r1.2.next.deep=s.deep:=w1.deep
       obtain ⟨g1,g2,g3⟩:=ih.aloop _ _ _ h w2.fit h0 (by rw [hdd];exact hmem k1) (fun e=>by simp at e)
       rw [hdd] at g1
       rw [List.length_append,List.length_singleton] at g2
       refine ⟨g1,by omega,fun k hk'=>?_⟩
       rw [hk'] at g2
       simp at g2
      ·rename_i hk
       injection h with h;subst h
       obtain ⟨m1,m2⟩:=must_i (T:=T) (s:=r1.2) (x := [41]) h0
       have k1:=key m1
       refine ⟨hmem k1,by dsimp only;rw [List.length_append,List.length_singleton];omega,fun k hk'=>?_⟩
       dsimp only at hk'
       cases l with
       | cons y l=>
         have:=congrArg List.length hk'
         simp at this
       | nil=>
         simp only [List.nil_append,List.cons.injEq,and_true] at hk'
         subst hk'
         split at h1
         ·rename_i hor
          injection h1 with h1;subst h1
          exfalso
          rcases hor with hor|hor
          ·exact hk hor
          ·rw [hb rfl] at hor;cases hor
         ·exact (ih.betw _ _ _ h1 (by omega) hf m1).2.1
end
theorem parseR_nf {s:List UInt8} (h:(parseR s).2.2=0):Nf (parseR s).1/\(parseR s).1.op≠23/\(parseR s).1.nest<=40:=by
 unfold parseR parseT at h ⊢
 by_cases h1:(lexP s).2.2=0
 ·obtain ⟨hT,hL,hG⟩:=lex_toks h1
  obtain ⟨r,hr⟩:=betw_some h1
  have hr':=hr
  unfold st0 at hr
  rw [if_neg (by simp [h1]),hr] at h ⊢
  dsimp only at h ⊢
  obtain ⟨q,hq⟩:∃ q,(if (curT (lexP s).1 r.2).kind≠0 then failP (lexP s).1 r.2 10 else r.2)=q:=⟨_,rfl⟩
  rw [hq] at h ⊢
  by_cases he:q.err≠0
  ·rw [if_pos he] at h
   exact absurd h he
  ·rw [if_neg he]
   have h0:r.2.err=0:=by
    split at hq
    ·subst hq
     exact absurd (by simpa using he) fun h=>fail_err (T:=(lexP s).1) (s:=r.2) (e:=10) (by decide) h
    ·subst hq
     simpa using he
   obtain ⟨g1,g2,g3⟩:=(nfF hT.ends hG (lex_nf h1) _).betw _ _ _ hr' (by omega) (st0_fit hT.ends) h0
   have hd0:st0.deep=0:=rfl
   have:=(insD_le (((0:Nat):Int)+1) r.1.op r.1.nest).1
   exact ⟨g1,g2,by show r.1.nest<=40;omega⟩
 ·rw [if_pos (by simpa using h1)] at h
  exact absurd h h1
/-! Grown trees. -/
end Go.A
namespace Go.A
open Go.Proofs Go.Lib
theorem dbl_le2 (s:List UInt8):(dbl s).length<=2*s.length:=by
 unfold dbl
 induction s with
 | nil=>simp
 | cons c s ih=>
   rw [List.flatMap_cons,List.length_append,List.length_cons]
   split<;>simp only [List.length_cons,List.length_nil]<;>omega
theorem quotT_len (s:List UInt8):(quotT s).length<=2*s.length+2:=by
 have h:(quotT s).length=(dbl s).length+2:=by unfold quotT dbl;simp
 have:=dbl_le2 s
 omega
theorem insT_len (least op:Int) (x:List UInt8):(insT least op x).length<=x.length+2:=by
 unfold insT
 split
 ·omega
 ·simp
theorem signs_le2:∀ i<12,(signL.getD i []).length<=2:=by decide
theorem errL_len:∀ k<7,(errL.getD k []).length<=7:=by decide
theorem joinS_len (ks:List Nd) (h:∀ k∈ks,k.spell.length+1<=16300*k.size):(joinS ks).length<=16300*Nd.sizes ks:=by
 have flat:∀ l:List Nd,(∀ k∈l,k.spell.length+1<=16300*k.size)->(l.flatMap fun k=>44::k.spell).length<=16300*Nd.sizes l:=by
  intro l
  induction l with
  | nil=>intro _;simp
  | cons x l ih=>
    intro hl
    have h1:=hl x (by simp)
    have h2:=ih fun k hk=>hl k (by simp [hk])
    rw [List.flatMap_cons,List.length_append,List.length_cons,Nd.sizes]
    omega
 cases ks with
 | nil=>simp [joinS]
 | cons x l=>
   have h1:=h x (by simp)
   have h2:=flat l fun k hk=>h k (by simp [hk])
   rw [joinS,List.length_append,Nd.sizes]
   omega
theorem nf_spell {n:Nd} (h:Nf n):n.spell.length+1<=16300*n.size:=by
 induction h with
 | @num n h0 h1=>
   have e:(Nd.mk 1 n [] .zero .zero []).spell=textD n:=rfl
   have:=textD_len (a:=n) (by omega)
   rw [leaf_size,e]
   omega
 | @text s _ hs=>
   have e:(Nd.mk 2 0 s .zero .zero []).spell=quotT s:=rfl
   have:=quotT_len s
   rw [leaf_size,e]
   omega
 | @truth b hb=>
   rcases hb with rfl|rfl
   ·exact (by decide:6<=16300*1)
   ·exact (by decide:5<=16300*1)
 | @fail k hk=>
   have e:(Nd.mk 4 (((k:Int)+1)*10000) [] .zero .zero []).spell=errL.getD k []:=fail_text hk
   have:=errL_len k hk
   rw [leaf_size,e]
   omega
 | @cell r hr=>
   have e:(Nd.mk 5 0 [] r .zero []).spell=textP r:=rfl
   have:=text_len hr
   rw [leaf_size,e]
   omega
 | @area r q hr hq=>
   have e:(Nd.mk 6 0 [] r q []).spell=textP r ++ [58]++textP q:=rfl
   have:=text_len hr
   have:=text_len hq
   rw [leaf_size,e,List.length_append,List.length_append,List.length_singleton]
   omega
 | @sign op x ho hx hne ih=>
   have:=insT_len 6 x.op x.spell
   rw [one_size,spell_sign ho,List.length_append,List.length_singleton]
   omega
 | @hund x hx hne ih=>
   have:=insT_len 7 x.op x.spell
   rw [one_size,spell_hund,List.length_append,List.length_singleton]
   omega
 | @bin i x y hi hx hnx hy hny ihx ihy=>
   have h1:=insT_len (levelP (10+i)) x.op x.spell
   have h2:=insT_len (levelP (10+i)+1) y.op y.spell
   have h3:=signs_le2 i hi
   rw [two_size,spell_bin hi,List.length_append,List.length_append]
   omega
 | @call s ks hs hl hk hm ih=>
   have h1:=joinS_len ks ih
   rw [Nd.size,spell_call,List.length_append,List.length_append,List.length_append,List.length_singleton,List.length_singleton]
   omega
 | miss=>exact (by decide:1<=16300*1)
end Go.A
namespace Go.A
open Go.Proofs
/-! 3: tabular/tabularlaw20.TileTyped -/
/-! 10: tabular/tabularlaw20.awake -/
end Go.A
namespace Go.A
open Go.Proofs Go.Lib Go.Vint
def TC.cs (c:TC):List AV:=cellCs c.t.op (match c.t with | .mk _ n _ _ _ _=>n) (match c.t with | .mk _ _ s _ _ _=>s) (match c.t with | .mk _ _ _ a _ _=>a) (match c.t with | .mk _ _ _ _ b _=>b) (c.t.kids.map Nd.av) (voAV c.v)
theorem TC.av_cs (c:TC):c.av = .agg c.cs:=by obtain ⟨⟨op,n,s,a,b,ks⟩,v⟩:=c;rfl
theorem TC.cs_len (c:TC):c.cs.length=13:=rfl
def tileCs (T:List TC):List AV:=T.flatMap TC.cs
theorem tileCs_len (T:List TC):(tileCs T).length=T.length*13:=by
 induction T with
 | nil=>rfl
 | cons c T ih=>
   unfold tileCs at ih ⊢
   rw [List.flatMap_cons,List.length_append,ih,TC.cs_len,List.length_cons]
   omega
theorem tileCs_at {T:List TC}:∀ {i:Nat} {c:TC},T[i]? = some c->((tileCs T).drop (i*13)).take 13=c.cs:=by
 induction T with
 | nil=>intro i c h;simp at h
 | cons d T ih=>
   intro i c h
   have hl:=TC.cs_len d
   unfold tileCs at ih ⊢
   rw [List.flatMap_cons]
   cases i with
   | zero=>
     simp only [List.getElem?_cons_zero,Option.some.injEq] at h
     subst h
     rw [Nat.zero_mul,List.drop_zero,← hl,List.take_left]
   | succ i=>
     rw [List.getElem?_cons_succ] at h
     rw [show (i+1)*13=d.cs.length+i*13 by rw [hl];omega,List.drop_append]
     have e1:d.cs.drop (d.cs.length+i*13) = []:=List.drop_eq_nil_of_le (by omega)
     rw [e1,List.nil_append,Nat.add_sub_cancel_left]
     exact ih h
theorem TileAt.of {T:List TC} {p:Nat} {σ:ASt} (hl:T.length=32) (h:σ p=some (.obj (tileCs T))):TileAt T p σ:=by
 refine ⟨hl,⟨_,h⟩,fun i c hc=>?_⟩
 obtain ⟨hi,_⟩:=List.getElem?_eq_some_iff.1 hc
 have hn:=tileCs_len T
 rw [h]
 show (if i*13+13<=(tileCs T).length then some (AV.agg (((tileCs T).drop (i*13)).take 13)) else none)=_
 rw [if_pos (by omega),tileCs_at hc,TC.av_cs]
def zTC:TC:=⟨zNd,none⟩
def z416:List AV:=(List.replicate 32 (zCells .nili)).flatten
theorem z416_len:z416.length=416:=by decide +kernel
end Go.A
namespace Go.A
open Go.Proofs
/-! 51: tabular/tabularref12.Same -/
/-! 78: tabular/tabularlaw12.Told -/
end Go.A
namespace Go.A
open Go.Proofs
/-! 19: tabular/tabularref20.Empty -/
/-! 37: tabular/tabularlaw20.Told -/
end Go.A
namespace Go.A
open Go.Proofs
/-! 15: tabular/tabularref20.Count -/
/-! 17: tabular/tabularref20.Layout -/
end Go.A
namespace Go.A
open Go.Proofs
/-! 45: tabular/tabularref02.Uint -/
/-! 48: tabular/tabularref02.Rising -/
/-! 143: tabular/tabularref02.Fold -/
/-! 144: tabular/tabularref02.Text -/
end Go.A
namespace Go.A
open Go.Proofs
/-! 90: tabular/tabularref12.Write -/
/-! 145: tabular/tabularref12.ref -/
end Go.A
namespace Go.A
open Go.Proofs
/-! 47: tabular/tabularref20.put -/
/-! 91: tabular/tabularref15.Put -/
end Go.A
namespace Go.A
open Go.Proofs
/-! 21: tabular/tabularref20.Write -/
/-! 46: tabular/tabularref20.order -/
end Go.A
namespace Go.A
open Go.Proofs
/-! 133: tabular/tabularref10.Letters -/
/-! 138: tabular/tabularref10.Great -/
/-! 182: tabular/tabularref10.Next -/
end Go.A
namespace Go.A
open Go.Proofs
/-! 131: tabular/tabularref01.Digits -/
end Go.A
namespace Go.A
open Go.Proofs
/-! 83: tabular/tabularref10.Text -/
end Go.A
namespace Go.A
open Go.Proofs
/-! 80: tabular/tabularref01.Text -/
/-! 132: tabular/tabularref01.Size -/
/-! 136: tabular/tabularref01.Parse -/
/-! 183: tabular/tabularref01.Value -/
/-! 184: tabular/tabularref01.Strip -/
end Go.A
namespace Go.A
open Go.Proofs
/-! 38: tabular/tabularref12.Print -/
/-! 81: tabular/tabularref11.Quote -/
/-! 82: tabular/tabularref11.Errors -/
/-! 84: tabular/tabularref12.inside -/
/-! 85: tabular/tabularref12.Level -/
end Go.A
namespace Go.A
open Go.Proofs
/-! 88: tabular/tabularref15.Show -/
/-! 141: tabular/tabularref15.AsText -/
end Go.A
namespace Go.A
open Go.Proofs
/-! 18: tabular/tabularref20.Text -/
/-! 39: tabular/tabularref15.Typed -/
/-! 87: tabular/tabularref15.Input -/
/-! 135: tabular/tabularref15.Trim -/
end Go.A
namespace Go.A
open Go.Proofs
/-! 13: tabular/tabularlaw20.Grow -/
/-! 22: tabular/tile.Same -/
/-! 23: tabular/tabularref20.Same -/
end Go.A
namespace Go.A
open Go.Proofs Go.Lib Go.Vint
theorem flat_len {α:Type} {f:α->List AV} {s:Nat} (hf:∀ x,(f x).length=s) (T:List α):(T.flatMap f).length=T.length*s:=by
 induction T with
 | nil=>simp
 | cons c T ih=>rw [List.flatMap_cons,List.length_append,ih,hf,List.length_cons,Nat.succ_mul,Nat.add_comm]
theorem flat_set {α:Type} {f:α->List AV} {s:Nat} (hf:∀ x,(f x).length=s) (c:α):∀ (T:List α) (i:Nat),i<T.length->(T.flatMap f).take (i*s)++f c++(T.flatMap f).drop (i*s+s)=(T.set i c).flatMap f
 | [],i,h=>by simp at h
 | x::T,0,_=>by
   rw [List.set_cons_zero,List.flatMap_cons,List.flatMap_cons,Nat.zero_mul,List.take_zero,Nat.zero_add,List.nil_append]
   congr 1
   rw [<-hf x,List.drop_left]
 | x::T,i+1,h=>by
   have ih:=flat_set hf c T i (by simpa using h)
   have hx:=hf x
   rw [List.set_cons_succ,List.flatMap_cons,List.flatMap_cons,← ih,Nat.succ_mul]
   have e1:(f x++T.flatMap f).take (i*s+s)=f x++(T.flatMap f).take (i*s):=by
    rw [show i*s+s=(f x).length+i*s by rw [hx];omega,List.take_length_add_append]
   have e2:(f x++T.flatMap f).drop (i*s+s+s)=(T.flatMap f).drop (i*s+s):=by
    rw [show i*s+s+s=(f x).length+(i*s+s) by rw [hx];omega,List.drop_length_add_append]
   rw [e1,e2]
   simp only [List.append_assoc]
theorem flat_at {α:Type} {f:α->List AV} {s:Nat} (hf:∀ x,(f x).length=s):∀ (T:List α) (i:Nat) (c:α),T[i]? = some c->((T.flatMap f).drop (i*s)).take s=f c
 | [],i,c,h=>by simp at h
 | x::T,0,c,h=>by
   obtain rfl:=Option.some.inj h
   rw [List.flatMap_cons,Nat.zero_mul,List.drop_zero,← hf x,List.take_left]
 | x::T,i+1,c,h=>by
   have ih:=flat_at hf T i c (by simpa using h)
   rw [List.flatMap_cons,Nat.succ_mul,show i*s+s=(f x).length+i*s by rw [hf];omega,List.drop_length_add_append]
   exact ih
theorem TC.cs_leaf (c:TC):leaves c.cs=true:=by
 obtain ⟨⟨op,n,s,a,b,ks⟩,v⟩:=c
 cases v with
 | none=>rfl
 | some v=>cases v<;>rfl
theorem soft416z:deeps z416=tileCs (List.replicate 32 zTC):=by rfl
end Go.A
namespace Go.A
open Go.Proofs Go.Lib
mutual
def Nd.strs (B:Nat):Nd->Prop
 | .mk _ _ s _ _ ks=>s.length<=B/\Nd.strss B ks
def Nd.strss (B:Nat):List Nd->Prop
 | []=>True
 | x::xs=>x.strs B/\Nd.strss B xs
end
theorem Nd.strss_mem {B:Nat}:∀ {l:List Nd},Nd.strss B l↔∀ x∈l,x.strs B
 | []=>by simp [Nd.strss]
 | y::l=>by rw [Nd.strss,Nd.strss_mem (l:=l)];simp
section
variable {T:List Tok} {B:Nat}
structure StrF (T:List Tok) (B:Nat) (f:Nat):Prop where
 betw:∀ lvl s r,betwP T f lvl s=some r->r.1.strs B
 loop:∀ lvl n s r,loopP T f lvl n s=some r->n.strs B->r.1.strs B
 signed:∀ s r,signedP T f s=some r->r.1.strs B
 hundred:∀ s r,hundredP T f s=some r->r.1.strs B
 hloop:∀ n s r,hloopP T f n s=some r->n.strs B->r.1.strs B
 prim:∀ s r,primP T f s=some r->r.1.strs B
 name:∀ s r,nameP T f s=some r->r.1.strs B
 args:∀ s r,argsP T f s=some r->Nd.strss B r.1
 aloop:∀ l s r,aloopP T f l s=some r->Nd.strss B l->Nd.strss B r.1
theorem strs_leaf (op n:Int) (a b:Ref):(Nd.mk op n [] a b []).strs B:=by
 rw [Nd.strs,Nd.strss]
 exact ⟨Nat.zero_le _,trivial⟩
theorem strF (hB:∀ s,(curT T s).text.length<=B):∀ f,StrF T B f
 | 0=>by
   constructor
   all_goals intros
   all_goals first
    | (rename_i h;simp only [betwP,signedP,hundredP,primP,nameP,argsP,reduceCtorEq] at h)
    | (rename_i h _;simp only [loopP,hloopP,aloopP,reduceCtorEq] at h)
 | f+1=>by
   have ih:=strF hB f
   have hz:zN.strs B:=strs_leaf _ _ _ _
   constructor
   ·intro lvl s r h
    rw [betwP] at h
    split at h
    ·exact ih.signed s r h
    ·split at h
     ·cases h
     ·rename_i r1 h1
      exact ih.loop _ _ _ _ h (ih.betw _ _ _ h1)
   ·intro lvl n s r h hn
    rw [loopP] at h
    split at h
    ·split at h
     ·cases h
     ·rename_i r1 h1
      refine ih.loop _ _ _ _ h ?_
      rw [Nd.strs,Nd.strss,Nd.strss,Nd.strss]
      exact ⟨Nat.zero_le _,hn,ih.betw _ _ _ h1,trivial⟩
    ·injection h with h;subst h;exact hn
   ·intro s r h
    rw [signedP] at h
    split at h
    ·split at h
     ·cases h
     ·rename_i r1 h1
      injection h with h;subst h
      dsimp only
      rw [Nd.strs,Nd.strss,Nd.strss]
      exact ⟨Nat.zero_le _,ih.signed _ _ h1,trivial⟩
    split at h
    ·split at h
     ·cases h
     ·rename_i r1 h1
      injection h with h;subst h
      dsimp only
      rw [Nd.strs,Nd.strss,Nd.strss]
      exact ⟨Nat.zero_le _,ih.signed _ _ h1,trivial⟩
    ·exact ih.hundred _ _ h
   ·intro s r h
    rw [hundredP] at h
    split at h
    ·cases h
    ·rename_i r1 h1
     exact ih.hloop _ _ _ h (ih.prim _ _ h1)
   ·intro n s r h hn
    rw [hloopP] at h
    split at h
    ·refine ih.hloop _ _ _ h ?_
     rw [Nd.strs,Nd.strss,Nd.strss]
     exact ⟨Nat.zero_le _,hn,trivial⟩
    ·injection h with h;subst h;exact hn
   ·intro s r h
    rw [primP] at h
    split at h
    ·split at h
     ·injection h with h;subst h;exact hz
     ·injection h with h;subst h;exact strs_leaf _ _ _ _
    split at h
    ·injection h with h;subst h
     dsimp only
     rw [Nd.strs,Nd.strss]
     exact ⟨hB s,trivial⟩
    split at h
    ·injection h with h;subst h;exact strs_leaf _ _ _ _
    split at h
    ·injection h with h;subst h
     unfold areaP
     split
     ·exact strs_leaf _ _ _ _
     ·split
      ·first|exact hz|exact strs_leaf _ _ _ _
      ·exact strs_leaf _ _ _ _
    split at h
    ·exact ih.name _ _ h
    split at h
    ·split at h
     ·cases h
     ·rename_i r1 h1
      injection h with h;subst h
      exact (ih.betw _ _ r1 h1:r1.1.strs B)
    ·injection h with h;subst h;exact hz
   ·intro s r h
    rw [nameP] at h
    split at h
    ·split at h
     ·injection h with h;subst h;exact hz
     ·split at h
      ·cases h
      ·rename_i r1 h1
       injection h with h;subst h
       dsimp only
       rw [Nd.strs]
       exact ⟨hB s,ih.args _ _ h1⟩
    split at h
    ·injection h with h;subst h;exact strs_leaf _ _ _ _
    split at h
    ·injection h with h;subst h;exact strs_leaf _ _ _ _
    ·injection h with h;subst h;exact hz
   ·intro s r h
    rw [argsP] at h
    split at h
    ·injection h with h;subst h;rw [Nd.strss];trivial
    ·exact ih.aloop _ _ _ h (by rw [Nd.strss];trivial)
   ·intro l s r h hl
    rw [aloopP] at h
    split at h
    ·injection h with h;subst h;exact hl
    ·split at h
     ·cases h
     ·rename_i r1 h1
      have key:r1.1.strs B:=by
       split at h1
       ·injection h1 with h1;subst h1;exact strs_leaf _ _ _ _
       ·exact ih.betw _ _ _ h1
      have hmem:Nd.strss B (l ++ [r1.1]):=by
       rw [Nd.strss_mem] at hl ⊢
       intro x hx
       rcases List.mem_append.1 hx with hx|hx
       ·exact hl x hx
       ·simp at hx;subst hx;exact key
      split at h
      ·exact ih.aloop _ _ _ h hmem
      ·injection h with h;subst h;exact hmem
end
theorem stepP_len (r:List UInt8) {kd:Int} {t:List UInt8} {n:Nat} (h:stepP r = .tok kd t n):t.length<=4*r.length+8:=by
 unfold stepP at h
 dsimp only at h
 split at h
 ·simp at h
 split at h
 ·simp at h
 split at h
 ·unfold wordsS at h
  dsimp only at h
  have hw:(r.take (runL wordB r)).length<=r.length:=by rw [List.length_take];omega
  split at h
  ·simp only [Step.tok.injEq] at h
   obtain ⟨rfl,rfl,rfl⟩:=h
   omega
  split at h
  ·simp only [Step.tok.injEq] at h
   obtain ⟨rfl,rfl,rfl⟩:=h
   rw [greatP_len];omega
  split at h
  ·simp only [Step.tok.injEq] at h
   obtain ⟨rfl,rfl,rfl⟩:=h
   rw [greatP_len];omega
  ·simp at h
 split at h
 ·obtain ⟨rfl,h2⟩:=quotedF_len _ _ _ _ _ _ _ h
  rw [List.length_drop] at h2
  simp only [List.length_nil] at h2
  omega
 split at h
 ·obtain ⟨rfl,h2⟩:=failS_gd _ _ _ _ _ h
  have hq:∀ x∈errTexts,x.length<=8:=by decide
  have:=hq t h2
  omega
 ·unfold opS at h
  split at h
  ·simp only [Step.tok.injEq] at h
   obtain ⟨rfl,rfl,rfl⟩:=h
   have:=alikeP_len ((decodeL r).1:Int)
   omega
  ·split at h
   ·rename_i e he
    simp only [Step.tok.injEq] at h
    obtain ⟨rfl,rfl,rfl⟩:=h
    have:=twos_len e (twoS_fits r _ _ he).1
    omega
   ·split at h
    ·simp only [Step.tok.injEq] at h
     obtain ⟨rfl,rfl,rfl⟩:=h
     rw [List.length_take];omega
    ·simp at h
theorem lexF_len {B:Nat}:∀ (k:Nat) (r:List UInt8) (a c:Nat) (acc L:List Tok) (x:Nat),4*r.length+8<=B->lexF k r a c acc=(L,x,0)->(∀ t∈acc,t.text.length<=B)->(∀ t∈L,t.text.length<=B)/\L.length<=acc.length+r.length+1
 | 0,r,a,c,acc,L,x,hr,h,hacc=>by simp [lexF] at h
 | k+1,r,a,c,acc,L,x,hr,h,hacc=>by
   rw [lexF] at h
   split at h
   ·simp only [Prod.mk.injEq] at h
    obtain ⟨rfl,_⟩:=h
    refine ⟨fun t ht=>?_,by rw [List.length_append,List.length_singleton];omega⟩
    rcases List.mem_append.1 ht with ht|ht
    ·exact hacc t ht
    ·simp at ht;subst ht;exact Nat.zero_le _
   ·rename_i hne
    have hpos:=List.length_pos_iff.2 hne
    split at h
    ·simp at h
    ·have:=lexF_len (B:=B) k _ _ _ _ _ _ (by rw [List.length_drop];omega) h hacc
     rw [List.length_drop] at this
     exact ⟨this.1,by omega⟩
    ·rename_i kd t n hst
     obtain ⟨f1,f2⟩:=(stepP_fits r hne).2 kd t n hst
     have:=lexF_len (B:=B) k _ _ _ _ _ _ (by rw [List.length_drop];omega) h (fun u hu=>by
      rcases List.mem_append.1 hu with hu|hu
      ·exact hacc u hu
      ·simp at hu;subst hu;have h9:=stepP_len r hst;exact Nat.le_trans h9 hr)
     rw [List.length_drop,List.length_append,List.length_singleton] at this
     exact ⟨this.1,by omega⟩
theorem lexP_len {s:List UInt8} (h:(lexP s).2.2=0):(∀ t∈(lexP s).1,t.text.length<=4*s.length+8)/\(lexP s).1.length<=s.length+1:=by
 unfold lexP at h ⊢
 split
 ·rename_i hl;rw [if_pos hl] at h;cases h
 ·rename_i hl
  rw [if_neg hl] at h
  obtain ⟨R,hR⟩:∃ R,lexF (s.length+1) s 0 0 []=R:=⟨_,rfl⟩
  rw [hR] at h ⊢
  obtain ⟨L,x,e⟩:=R
  dsimp only at h ⊢
  subst h
  have:=lexF_len (B:=4*s.length+8) _ _ _ _ _ _ _ (Nat.le_refl _) hR (by simp)
  exact ⟨this.1,by simpa using this.2⟩
theorem parseR_small {s:List UInt8} (h:(parseR s).2.2=0):(parseR s).1.strs (4*s.length+8)/\(parseR s).1.size<=2*s.length+2:=by
 unfold parseR parseT at h ⊢
 by_cases h1:(lexP s).2.2=0
 ·obtain ⟨hT,hL,hG⟩:=lex_toks h1
  obtain ⟨hl1,hl2⟩:=lexP_len h1
  obtain ⟨r,hr⟩:=betw_some h1
  have hr':=hr
  unfold st0 at hr
  rw [if_neg (by simp [h1]),hr] at h ⊢
  dsimp only at h ⊢
  have W:=(wentF hT.ends _).betw _ _ _ hr' (st0_fit hT.ends)
  obtain ⟨q,hq⟩:∃ q,(if (curT (lexP s).1 r.2).kind≠0 then failP (lexP s).1 r.2 10 else r.2)=q:=⟨_,rfl⟩
  rw [hq] at h ⊢
  by_cases he:q.err≠0
  ·rw [if_pos he] at h
   exact absurd h he
  ·rw [if_neg he]
   have h0:r.2.err=0:=by
    split at hq
    ·subst hq
     exact absurd (by simpa using he) fun h=>fail_err (T:=(lexP s).1) (s:=r.2) (e:=10) (by decide) h
    ·subst hq
     simpa using he
   obtain ⟨g1,g2⟩:=(goodF hT.ends hG (by omega) _).betw _ _ _ hr' (st0_fit hT.ends) h0
   have:=W.fit.i
   have hB:∀ p,(curT (lexP s).1 p).text.length<=4*s.length+8:=fun p=>by
    unfold curT
    split
    ·exact Nat.zero_le _
    ·rw [List.getD_eq_getElem?_getD]
     cases hx:(lexP s).1[p.i]? with
     | none=>exact Nat.zero_le _
     | some t=>exact hl1 t (List.mem_of_getElem? hx)
   refine ⟨(strF hB _).betw _ _ _ hr',?_⟩
   show r.1.size<=_
   omega
 ·rw [if_pos (by simpa using h1)] at h
  exact absurd h h1
theorem kt_of {t:Tok} {k:Int} {x:List UInt8} (h:kt t=(k,x)):t.kind=k/\t.text=x:=by
 unfold kt at h
 injection h with h1 h2
 exact ⟨h1,h2⟩
theorem name_alone {s:List UInt8} (h:NameOk s) (hl:s.length<=2000):nameOkP s=true:=by
 have h1:=lx_name h [] (fun c t e=>by cases e)
 rw [List.append_nil,relP_nil] at h1
 unfold nameOkP
 rw [lexP_rel hl]
 generalize relP s=R at *
 cases R with
 | inl j=>simp [kts] at h1
 | inr x=>
   obtain ⟨ts,m⟩:=x
   simp only [kts,List.map_nil,Option.map_some,List.append_nil,Option.some.injEq] at h1
   match ts,h1 with
   | [],h1=>cases h1
   | t::u::l,h1=>simp at h1
   | [t],h1=>
     injection h1 with h1
     obtain ⟨k1,k2⟩:=kt_of h1
     simp [endOf,k1,k2,Tok.sh]
theorem gdN_num {n:Int} (h0:0<=n) (h1:n<=999999999999999999):GdN 1 n [] .zero .zero 0 where
 op1:=by decide
 op2:=by decide
 n1:=fun _=>⟨h0,h1⟩
 n3:=fun h=>by omega
 n4:=fun h=>by omega
 n0:=fun h=>absurd rfl h
 s2:=fun h=>by omega
 s22:=fun h=>by omega
 s0:=fun _ _=>rfl
 ga:=fun h=>by omega
 a0:=fun _ _=>rfl
 gb:=fun h=>by omega
 b0:=fun _=>rfl
 ar:=fun _=>rfl
theorem nf_wd {n:Nd} (h:Nf n):n.strs 2000->n.size<=2000->n.wd:=by
 have leaf:∀ (op m:Int) (s:List UInt8) (a b:Ref),GdN op m s a b 0->(Nd.mk op m s a b []).wd:=fun op m s a b h=>by
  rw [Nd.wd,Nd.wds]
  exact ⟨h,trivial⟩
 have kid:∀ {op m:Int} {s:List UInt8} {a b:Ref} {ks:List Nd} {x:Nd},x∈ks->(Nd.mk op m s a b ks).strs 2000->(Nd.mk op m s a b ks).size<=2000->x.strs 2000/\x.size<=2000:=by
  intro op m s a b ks x hx hs hz
  rw [Nd.strs,Nd.strss_mem] at hs
  refine ⟨hs.2 x hx,?_⟩
  rw [Nd.size] at hz
  have:∀ l:List Nd,x∈l->x.size<=Nd.sizes l:=by
   intro l
   induction l with
   | nil=>intro h;cases h
   | cons y l ih=>
     intro h
     rw [Nd.sizes]
     rcases List.mem_cons.1 h with rfl|h
     ·omega
     ·have:=ih h;omega
  have:=this ks hx
  omega
 induction h with
 | num h0 h1=>exact fun _ _=>leaf _ _ _ _ _ (gdN_num h0 h1)
 | @text s h0 h1=>
   intro hs _
   rw [Nd.strs] at hs
   have hsg:(sgT s).isSome=true:=by
    have e:sgT s=sgP s:=rfl
    rw [e]
    cases hq:sgP s with
    | none=>exact absurd hq h0
    | some x=>rfl
   exact leaf _ _ _ _ _ ⟨by decide,by decide,fun h=>by omega,fun h=>by omega,fun h=>by omega,fun _ _ _=>rfl,fun _=>⟨hs.1,hsg⟩,fun h=>by omega,fun h=>absurd rfl h,fun h=>by omega,fun _ _=>rfl,fun h=>by omega,fun _=>rfl,fun _=>rfl⟩
 | @truth b hb=>exact fun _ _=>leaf _ _ _ _ _ ⟨by decide,by decide,fun h=>by omega,fun _=>hb,fun h=>by omega,fun _ h=>absurd rfl h,fun h=>by omega,fun h=>by omega,fun _ _=>rfl,fun h=>by omega,fun _ _=>rfl,fun h=>by omega,fun _=>rfl,fun _=>rfl⟩
 | @fail k hk=>exact fun _ _=>leaf _ _ _ _ _ ⟨by decide,by decide,fun h=>by omega,fun h=>by omega,fun _=>⟨by have:(((k:Int)+1)*10000).tmod 10000=0:=Int.mul_tmod_left _ _;exact this,by omega,by omega⟩,fun _ _ h=>absurd rfl h,fun h=>by omega,fun h=>by omega,fun _ _=>rfl,fun h=>by omega,fun _ _=>rfl,fun h=>by omega,fun _=>rfl,fun _=>rfl⟩
 | @cell r hr=>exact fun _ _=>leaf _ _ _ _ _ ⟨by decide,by decide,fun h=>by omega,fun h=>by omega,fun h=>by omega,fun _ _ _=>rfl,fun h=>by omega,fun h=>by omega,fun _ _=>rfl,fun _=>hr,fun h=>absurd rfl h,fun h=>by omega,fun _=>rfl,fun _=>rfl⟩
 | @area r q hr hq=>exact fun _ _=>leaf _ _ _ _ _ ⟨by decide,by decide,fun h=>by omega,fun h=>by omega,fun h=>by omega,fun _ _ _=>rfl,fun h=>by omega,fun h=>by omega,fun _ _=>rfl,fun _=>hr,fun _ h=>absurd rfl h,fun _=>hq,fun h=>absurd rfl h,fun _=>rfl⟩
 | @sign op x ho hx hne ih=>
   intro hs hz
   obtain ⟨k1,k2⟩:=kid (by simp:x ∈ [x]) hs hz
   rw [Nd.wd,Nd.wds,Nd.wds]
   refine ⟨⟨by omega,by omega,fun h=>by omega,fun h=>by omega,fun h=>by omega,fun _ _ _=>rfl,fun h=>by omega,fun h=>by omega,fun _ _=>rfl,fun h=>by omega,fun _ _=>rfl,fun h=>by omega,fun _=>rfl,fun _=>?_⟩,ih k1 k2,trivial⟩
   unfold arity
   rw [if_pos (by omega)]
   rfl
 | @hund x hx hne ih=>
   intro hs hz
   obtain ⟨k1,k2⟩:=kid (by simp:x ∈ [x]) hs hz
   rw [Nd.wd,Nd.wds,Nd.wds]
   exact ⟨⟨by decide,by decide,fun h=>by omega,fun h=>by omega,fun h=>by omega,fun _ _ _=>rfl,fun h=>by omega,fun h=>by omega,fun _ _=>rfl,fun h=>by omega,fun _ _=>rfl,fun h=>by omega,fun _=>rfl,fun _=>rfl⟩,ih k1 k2,trivial⟩
 | @bin i x y hi hx hnx hy hny ihx ihy=>
   intro hs hz
   obtain ⟨k1,k2⟩:=kid (by simp:x ∈ [x,y]) hs hz
   obtain ⟨k3,k4⟩:=kid (by simp:y ∈ [x,y]) hs hz
   rw [Nd.wd,Nd.wds,Nd.wds,Nd.wds]
   refine ⟨⟨by omega,by omega,fun h=>by omega,fun h=>by omega,fun h=>by omega,fun _ _ _=>rfl,fun h=>by omega,fun h=>by omega,fun _ _=>rfl,fun h=>by omega,fun _ _=>rfl,fun h=>by omega,fun _=>rfl,fun _=>?_⟩,ihx k1 k2,ihy k3 k4,trivial⟩
   unfold arity
   rw [if_neg (by omega),if_pos (by omega)]
   rfl
 | @call s ks hn hl hk hm ih=>
   intro hs hz
   have hst:=hs
   rw [Nd.strs] at hst
   have hlen:ks.length<=2000:=by
    have:=sizes_len ks
    rw [Nd.size] at hz
    omega
   rw [Nd.wd,Nd.wds_mem]
   refine ⟨⟨by decide,by decide,fun h=>by omega,fun h=>by omega,fun h=>by omega,fun _ _ _=>rfl,fun h=>by omega,fun _=>⟨hst.1,name_alone hn hst.1,hlen⟩,fun _ h=>absurd rfl h,fun h=>by omega,fun _ _=>rfl,fun h=>by omega,fun _=>rfl,fun h=>absurd rfl h⟩,fun x hx=>?_⟩
   obtain ⟨k1,k2⟩:=kid hx hs hz
   exact ih x hx k1 k2
 | miss=>exact fun _ _=>leaf _ _ _ _ _ ⟨by decide,by decide,fun h=>by omega,fun h=>by omega,fun h=>by omega,fun _ _ _=>rfl,fun h=>by omega,fun h=>by omega,fun _ _=>rfl,fun h=>by omega,fun _ _=>rfl,fun h=>by omega,fun _=>rfl,fun _=>rfl⟩
end Go.A
namespace Go.A
open Go.Proofs
/-! 4: tabular/tabularlaw20.TileWrites -/
end Go.A
namespace Go.A
open Go.Proofs Go.Lib Go.Vint
mutual
theorem nd_strs_mono {B C:Nat} (h:B<=C):∀ n:Nd,n.strs B->n.strs C
 | .mk op m s a b ks,hs=>by
   rw [Nd.strs] at hs ⊢
   exact ⟨Nat.le_trans hs.1 h,nd_strss_mono h ks hs.2⟩
theorem nd_strss_mono {B C:Nat} (h:B<=C):∀ l:List Nd,Nd.strss B l->Nd.strss C l
 | [],_=>by rw [Nd.strss];trivial
 | x::l,hs=>by
   rw [Nd.strss] at hs ⊢
   exact ⟨nd_strs_mono h x hs.1,nd_strss_mono h l hs.2⟩
end
theorem rfB_le {r:Ref} (h:r.good=true):(rfB r).length<=20:=by
 have hb:=good_bd h
 have ha:absN r<=3:=by unfold absN;split<;>split<;>omega
 have h1:=uintB_le (u:=((absN r+4*r.row.toNat:Nat):Int)) (by omega)
 have h2:=uintB_le (u:=((r.col.toNat:Nat):Int)) (by omega)
 rw [Int.toNat_natCast] at h1 h2
 unfold rfB
 rw [List.length_append]
 omega
theorem restB_le {op n:Int} {s:List UInt8} {a b:Ref} {k B:Nat} (h:GdN op n s a b k) (hs:s.length<=B):(restB op n s a b k).length<=B+50:=by
 have hn:=h.num
 have hk:=h.kids
 have htx:(textB s).length<=B+10:=by
  have h1:=uintB_le (u:=((s.length:Nat):Int)) (by
   by_cases e:op=2
   ·have:=(h.s2 e).1;omega
   by_cases e2:op=22
   ·have:=(h.s22 e2).1;omega
   ·rw [h.s0 e e2];decide)
  rw [Int.toNat_natCast] at h1
  unfold textB
  rw [List.length_append]
  omega
 unfold restB
 split
 ·have hf:=(foldI n)
  have h2:foldI n<=18446744073709551615/\0<=foldI n:=by unfold foldI;split<;>omega
  have:=uintB_le (u:=foldI n) h2.1
  omega
 split
 ·omega
 split
 ·rename_i e
  have:=rfB_le (h.ga (.inl e))
  omega
 split
 ·rename_i e
  have h1:=rfB_le (h.ga (.inr e))
  have h2:=rfB_le (h.gb e)
  rw [List.length_append]
  omega
 split
 ·have h1:=uintB_le (u:=(k:Int)) (by omega)
  rw [Int.toNat_natCast] at h1
  rw [List.length_append]
  omega
 ·exact Nat.zero_le _
mutual
theorem nd_bytes_le {B:Nat}:∀ n:Nd,n.wd->n.strs B->n.bytes.length<=(B+60)*n.size
 | .mk op n s a b ks,hw,hs=>by
   rw [Nd.wd] at hw
   rw [Nd.strs] at hs
   have h1:=restB_le hw.1 hs.1
   have h2:=nd_bytess_le ks hw.2 hs.2
   have h3:=uintB_le (u:=op) (by have:=hw.1.op2;omega)
   rw [Nd.bytes,List.length_append,List.length_append,Nd.size,Nat.mul_add,Nat.mul_one]
   omega
theorem nd_bytess_le {B:Nat}:∀ l:List Nd,Nd.wds l->Nd.strss B l->(Nd.bytess l).length<=(B+60)*Nd.sizes l
 | [],_,_=>by rw [Nd.bytess];exact Nat.zero_le _
 | x::l,hw,hs=>by
   rw [Nd.wds] at hw
   rw [Nd.strss] at hs
   have h1:=nd_bytes_le x hw.1 hs.1
   have h2:=nd_bytess_le l hw.2 hs.2
   rw [Nd.bytess,List.length_append,Nd.sizes,Nat.mul_add]
   omega
end
structure TC.made (c:TC):Prop where
 fine:c.fine
 wf:c.wfine
 size:c.t.size<=5000
 op:0<=c.t.op
 nf:c.isF=true->Nf c.t/\0<c.t.op
theorem zTC_made:zTC.made:=by
 refine ⟨⟨fun h=>(by cases h),fun h=>(by cases h),trivial,trivial,by decide +kernel⟩,⟨fun h=>(by cases h),fun h=>(by cases h),trivial,fun t h=>(by cases h)⟩,by decide,by decide,fun h=>(by cases h)⟩
end Go.A
namespace Go.A
open Go.Proofs Go.Lib Go.Vint
def eqPl (a:Pl) (k y:Int) (z:List UInt8):Bool:=decide (a.kind=k) && (decide (a.n=y) && decide (a.s=z))
def endV (k y:Int) (z:List UInt8) (p:Nat):PV×Int×Nat:=if eqPl (plOf (ofP ⟨k,y,z⟩)) k y z=true then (ofP ⟨k,y,z⟩,0,p) else (.blank,3,p)
def getV (s:List UInt8) (p:Nat):PV×Int×Nat:=
 if (readU s p 0).2.2≠0 then (.blank,(readU s p 0).2.2,(readU s p 0).2.1)
 else if min (readU s p 0).1 9=1\/min (readU s p 0).1 9=3\/min (readU s p 0).1 9=4 then
  if (readU s (readU s p 0).2.1 0).2.2≠0 then (.blank,(readU s (readU s p 0).2.1 0).2.2,(readU s (readU s p 0).2.1 0).2.1)
  else endV ((min (readU s p 0).1 9:Nat):Int) (unfI (readU s (readU s p 0).2.1 0).1) [] (readU s (readU s p 0).2.1 0).2.1
 else if min (readU s p 0).1 9=2 then
  if (rtxP s (readU s p 0).2.1 0 2000).2.2≠0 then (.blank,(rtxP s (readU s p 0).2.1 0 2000).2.2,(rtxP s (readU s p 0).2.1 0 2000).2.1)
  else endV 2 0 (rtxP s (readU s p 0).2.1 0 2000).1 (rtxP s (readU s p 0).2.1 0 2000).2.1
 else endV ((min (readU s p 0).1 9:Nat):Int) 0 [] (readU s p 0).2.1
def GotV (s:List UInt8) (b:Nat) (σ:ASt) (G:PV×Int×Nat) (v:AV) (σ':ASt):Prop:=v = .tuple [G.1.av,.int .i64 G.2.1]/\∃ P E,σ'=σ.set b (rd s P E)/\(G.2.1=0->P=G.2.2/\E=0)
set_option maxHeartbeats 2000000 in
theorem vgetR_ok {σ:ASt} (hU:U8 σ) (s:List UInt8) (p b:Nat) (hb:σ b=rd s p 0) (hs:s.length<=10000000) (hp:p<=s.length) :
  ACalls Tryz.prog 72 [.ptr b 0] σ (GotV s b σ (getV s p)):=by
 obtain ⟨G,hG⟩:∃ G,getV s p=G:=⟨_,rfl⟩
 rw [hG]
 unfold getV at hG
 obtain ⟨f1,f2,f3,f4⟩:=rUq s p 0 hp
 have hq2:=rUq s (readU s p 0).2.1 0 f2
 have hx2:=rtxP_facts s (readU s p 0).2.1 2000 f2
 have hI:=fun (τ:ASt) (h:τ b=rd s (readU s p 0).2.1 0)=>rint_ok s (readU s p 0).2.1 0 b τ h (by omega) f2
 have hX:=fun (τ:ASt) (h:τ b=rd s (readU s p 0).2.1 0)=>rtext_ok s (readU s p 0).2.1 0 2000 b τ h (by omega) f2 (by decide)
 have hR:=ruint_ok s p 0 b σ hb (by omega) hp
 have hO:=fun (τ:ASt) (h:U8 τ) (pl:Pl) (hl)=>of_ok h pl hl
 have hE:=fun (τ:ASt) (P:Nat) (E:Int) (h:τ b=rd s P E)=>rerr_ok s P E b τ h
 have hbl:PV.blank.av = .iface 138 (.agg []):=rfl
 generalize readU s p 0=R at *
 obtain ⟨u,p1,e1⟩:=R
 dsimp only at *
 generalize readU s p1 0=Q at *
 obtain ⟨u2,p2,e2⟩:=Q
 generalize rtxP s p1 0 2000=X at *
 obtain ⟨x3,p3,e3⟩:=X
 dsimp only at *
 obtain ⟨k,hk⟩:∃ k:Nat,min u 9=k:=⟨_,rfl⟩
 rw [hk] at hG
 have hmn:min (u:Int) 9=(k:Int):=by omega
 have hk9:k<=9:=by omega
 have hun : -9223372036854775808<=unfI u2/\unfI u2<=9223372036854775807:=by unfold unfI;split<;>omega
 obtain ⟨F,hF⟩:∃ F,F=ACode.wp Tryz.prog c72_34:=⟨_,rfl⟩
 have hcne:∀ {c:Nat},σ c=none->b≠c:=fun {c} hc=>by rintro rfl;rw [hb] at hc;cases hc
 have hgoE:∀ (P P':Nat) (E:Int) (c:Nat) (cs:List AV) (a:AFr),E≠0->σ c=none->(a 0 = .ptr b 0/\a 4 = .ptr c 0)->F (RetQ [.t 2,.t 3] (GotV s b σ (.blank,E,P'))) a ((σ.set b (rd s P E)).set c (some (.obj cs))):=by
  intro P P' E c cs a hE0 hc hf
  have hbc:=hcne hc
  have he:=hE ((σ.set b (rd s P E)).set c (some (.obj cs))) P E (by rw [ASt.set_ne hbc,ASt.set_same])
  rw [hF]
  simp (disch:=first|assumption|omega) only [go_sem,hf]
  refine he.mono ?_
  rintro v σ1 ⟨rfl,rfl⟩
  simp (disch:=first|assumption|omega) only [go_sem,hf,hE0]
  refine he.mono ?_
  rintro v σ1 ⟨rfl,rfl⟩
  simp (disch:=first|assumption|omega) only [go_sem]
  exact retC_by (Drop.set (by rw [ASt.set_ne (Ne.symm hbc)];exact hc)) (.refl _) ⟨rfl,P,E,rfl,fun h=>absurd h hE0⟩
 have hgo:∀ (P:Nat) (k y:Int) (z:List UInt8) (c:Nat) (a:AFr),z.length<=4611686018427387904->σ c=none->(a 0 = .ptr b 0/\a 4 = .ptr c 0)->F (RetQ [.t 2,.t 3] (GotV s b σ (endV k y z P))) a ((σ.set b (rd s P 0)).set c (some (.obj [.int .i64 k,.int .i64 y,.str z]))):=by
  intro P k y z c a hz hc hf
  have hbc:=hcne hc
  have he:=hE ((σ.set b (rd s P 0)).set c (some (.obj [.int .i64 k,.int .i64 y,.str z]))) P 0 (by rw [ASt.set_ne hbc,ASt.set_same])
  have hU2:U8 ((σ.set b (rd s P 0)).set c (some (.obj [.int .i64 k,.int .i64 y,.str z]))):=(hU.rd hb P 0).set (by rw [ASt.set_ne (Ne.symm hbc)];exact hc)
  have ho:=hO _ hU2 ⟨k,y,z⟩ hz
  have hT:=tell_ok (ofP ⟨k,y,z⟩)
  rw [tell_pl] at hT
  have hdr:Drop ((σ.set b (rd s P 0)).set c (some (.obj [.int .i64 k,.int .i64 y,.str z]))) (σ.set b (rd s P 0)):=Drop.set (by rw [ASt.set_ne (Ne.symm hbc)];exact hc)
  have hcc:((σ.set b (rd s P 0)).set c (some (.obj [.int .i64 k,.int .i64 y,.str z]))) c=some (.obj [.int .i64 k,.int .i64 y,.str z]):=ASt.set_same _ _ _
  generalize (σ.set b (rd s P 0)).set c (some (.obj [.int .i64 k,.int .i64 y,.str z]))=τ at *
  obtain ⟨V,hV⟩:∃ V,endV k y z P=V:=⟨_,rfl⟩
  rw [hV]
  unfold endV at hV
  generalize ofP ⟨k,y,z⟩=vv at *
  generalize plOf vv=pl at *
  obtain ⟨k2,y2,z2⟩:=pl
  unfold plAV at ho hT
  dsimp only at ho hT
  have hx:(decide (k2=k) && (decide (y2=y) && decide (z2=z)))=eqPl ⟨k2,y2,z2⟩ k y z:=rfl
  rw [hF]
  cases hq:eqPl ⟨k2,y2,z2⟩ k y z with
  | true=>
    rw [hq] at hV hx
    rw [if_pos rfl] at hV
    subst hV
    simp (disch:=first|assumption|omega) only [go_sem,hf]
    refine he.mono ?_
    rintro v σ1 ⟨rfl,rfl⟩
    simp (disch:=first|assumption|omega) only [go_sem,hf,hcc]
    refine ho.mono ?_
    rintro v σ1 ⟨rfl,rfl⟩
    simp (disch:=first|assumption|omega) only [go_sem,hf,hcc]
    refine hT.use ?_
    simp (disch:=first|assumption|omega) only [go_sem,hf,hcc,hx]
    exact retC_by hdr (.refl _) ⟨rfl,P,0,rfl,fun _=>⟨rfl,rfl⟩⟩
  | false=>
    rw [hq] at hV hx
    rw [if_neg (by simp)] at hV
    subst hV
    simp (disch:=first|assumption|omega) only [go_sem,hf]
    refine he.mono ?_
    rintro v σ1 ⟨rfl,rfl⟩
    simp (disch:=first|assumption|omega) only [go_sem,hf,hcc]
    refine ho.mono ?_
    rintro v σ1 ⟨rfl,rfl⟩
    simp (disch:=first|assumption|omega) only [go_sem,hf,hcc]
    refine hT.use ?_
    simp (disch:=first|assumption|omega) only [go_sem,hf,hcc,hx]
    exact retC_by hdr (.refl _) ⟨rfl,P,0,rfl,fun h=>by cases h⟩
 have hsw:∀ (c:Nat) (hc:σ c=none) (X Y Z:Option Role),((σ.set b X).set c Y).set b Z=(σ.set b Z).set c Y:=fun c hc X Y Z=>by rw [set_swap (Ne.symm (hcne hc)),ASt.set_set]
 refine a72 (by simp) ?_
 simp (disch:=first|assumption|omega) only [go_sem]
 refine hR.mono ?_
 rintro v σ1 ⟨rfl,rfl⟩
 simp (disch:=first|assumption|omega) only [go_sem,hmn]
 refine aBq fun c hc=>?_
 have hcb:c≠b:=by rintro rfl;unfold A.rd at hc;rw [ASt.set_same] at hc;cases hc
 have hc0:σ c=none:=by rw [ASt.set_ne hcb] at hc;exact hc
 have hbc:b≠c:=Ne.symm hcb
 have hsw:=hsw c hc0
 clear hR hE hO hbl
 by_cases he1:e1=0
 ·subst he1
  rw [if_neg (by simp)] at hG
  by_cases hk134:k=1\/k=3\/k=4
  ·rw [if_pos hk134] at hG
   have hI:=fun (X:Role)=>hI ((σ.set b (rd s p1 0)).set c (some X)) (by rw [ASt.set_ne hbc,ASt.set_same])
   by_cases he2:e2=0
   ·subst he2
    rw [if_neg (by simp)] at hG
    subst hG
    rcases hk134 with rfl|rfl|rfl
    all_goals
     simp (disch:=first|assumption|omega) only [go_sem,ASt.set_set,←hF]
     refine (hI _).mono ?_
     rintro v σ2 ⟨rfl,rfl⟩
     simp (disch:=first|assumption|omega) only [go_sem,hsw,ASt.set_set,←hF]
     refine hgo p2 _ _ [] c _ (Nat.zero_le _) hc0 ?_
     simp (disch:=first|assumption|omega) only [go_sem]
   ·rw [if_pos he2] at hG
    subst hG
    rcases hk134 with rfl|rfl|rfl
    all_goals
     simp (disch:=first|assumption|omega) only [go_sem,ASt.set_set,←hF]
     refine (hI _).mono ?_
     rintro v σ2 ⟨rfl,rfl⟩
     simp (disch:=first|assumption|omega) only [go_sem,hsw,ASt.set_set,←hF]
     refine hgoE p2 p2 e2 c _ _ he2 hc0 ?_
     simp (disch:=first|assumption|omega) only [go_sem]
  ·rw [if_neg hk134] at hG
   by_cases hk2:k=2
   ·subst hk2
    rw [if_pos rfl] at hG
    have hX:=fun (X:Role)=>hX ((σ.set b (rd s p1 0)).set c (some X)) (by rw [ASt.set_ne hbc,ASt.set_same])
    have h20:((2000:Nat):Int)=2000:=rfl
    rw [h20] at hX
    by_cases he3:e3=0
    ·subst he3
     rw [if_neg (by simp)] at hG
     subst hG
     simp (disch:=first|assumption|omega) only [go_sem,ASt.set_set,←hF]
     refine (hX _).mono ?_
     rintro v σ2 ⟨rfl,rfl⟩
     simp (disch:=first|assumption|omega) only [go_sem,hsw,ASt.set_set,←hF]
     refine hgo p3 _ _ x3 c _ (by omega) hc0 ?_
     simp (disch:=first|assumption|omega) only [go_sem]
    ·rw [if_pos he3] at hG
     subst hG
     simp (disch:=first|assumption|omega) only [go_sem,ASt.set_set,←hF]
     refine (hX _).mono ?_
     rintro v σ2 ⟨rfl,rfl⟩
     simp (disch:=first|assumption|omega) only [go_sem,hsw,ASt.set_set,←hF]
     refine hgoE p3 p3 e3 c _ _ he3 hc0 ?_
     simp (disch:=first|assumption|omega) only [go_sem]
   ·rw [if_neg hk2] at hG
    subst hG
    have n1:¬ (k:Int)=1:=by omega
    have n2:¬ (k:Int)=2:=by omega
    have n3:¬ (k:Int)=3:=by omega
    have n4:¬ (k:Int)=4:=by omega
    simp (disch:=first|assumption|omega) only [go_sem,n1,n2,n3,n4,ASt.set_set,←hF]
    refine hgo p1 _ _ [] c _ (Nat.zero_le _) hc0 ?_
    simp (disch:=first|assumption|omega) only [go_sem]
 ·rw [if_pos he1] at hG
  subst hG
  obtain ⟨hu0,_⟩:=f3 he1
  obtain rfl:k=0:=by omega
  simp (disch:=first|assumption|omega) only [go_sem,ASt.set_set,←hF]
  refine hgoE p1 p1 e1 c _ _ he1 hc0 ?_
  simp (disch:=first|assumption|omega) only [go_sem]
theorem getV_back {s r:List UInt8} {p:Nat} {v:PV} (hd:s.drop p=putB v++r) (hg:v.good) (ht:∀ t,v = .text t->t.length<=2000) (hof:ofP (plOf v)=v):getV s p=(v,0,p+(putB v).length):=by
 obtain ⟨k,y,z,hpl,hB,hy,hz,hk⟩:=put_pl v hg ht
 have hend:∀ q,endV k y z q=(v,0,q):=fun q=>by
  have hov:ofP ⟨k,y,z⟩=v:=by rw [<-hpl];exact hof
  unfold endV
  rw [hov,hpl]
  unfold eqPl
  simp
 rw [hB] at hd ⊢
 have hk4:0<=k/\k<=4:=by omega
 have hd1:s.drop p=uintB k.toNat++((if k=1\/k=3\/k=4 then uintB (foldI y).toNat else if k=2 then textB z else [])++r):=by rw [hd];simp [plB]
 have hR:=readU_uint hd1 (by omega)
 have hd2:=drop_app hd1
 have hkm:min k.toNat 9=k.toNat:=by omega
 have hkn:((k.toNat:Nat):Int)=k:=by omega
 unfold getV
 rw [hR]
 dsimp only
 rw [if_neg (by simp),hkm,hkn]
 rcases hk with ⟨hk,rfl⟩|⟨rfl,rfl⟩|⟨rfl,rfl,rfl⟩
 ·rw [if_pos hk] at hd2
  have hR2:=readU_uint hd2 (by have:=foldI_bd (n:=y) (by omega) (by omega);omega)
  have hun:=unf_fold (n:=y) (by omega) (by omega)
  rw [if_pos (by omega),hR2]
  dsimp only
  rw [if_neg (by simp),hun,hend]
  unfold plB
  rw [if_pos hk,List.length_append,Nat.add_assoc]
 ·rw [if_neg (by omega),if_pos rfl] at hd2
  have hR2:=rtx_written hd2 hz (by omega)
  rw [if_neg (by decide),if_pos (by decide),hR2]
  dsimp only
  rw [if_neg (by simp),hend]
  unfold plB
  rw [if_neg (by omega),if_pos rfl,List.length_append,Nat.add_assoc]
 ·rw [if_neg (by decide),if_neg (by decide),hend]
  unfold plB
  simp
end Go.A
namespace Go.A
open Go.Proofs
/-! 56: tabular/tile.get -/
def c56_47:ACode := .seq (.ops [ oq 48 (.mv (.t 0)),oe 49 (.call 72 [(.t 48)]),oq 47 (.mv (.t 49)),oq 50 (.ext 0 (.t 47)),oq 51 (.ext 1 (.t 47)),oq 10 (.mv (.t 50)),oq 11 (.mv (.t 51))]) (.seq (.seq (.ops [ oq 52 (.mv (.t 11)),oq 53 (.bin .neq (.t 52) (.v (.int .i64 0)))]) (.cond (.t 53) (.seq (.ops [ oq 54 (.build [(.int .i64 0),(.int .i64 0),(.str []),(.int .i64 0),(.int .i64 0),(.bool false),(.bool false),(.int .i64 0),(.int .i64 0),(.bool false),(.bool false),(.sl .full []),.nili] []),oq 55 (.mv (.t 11)),oz (.store 13 (.t 4) (.t 54)),oq 5 (.mv (.t 55))]) .ret) .skip)) (.seq (.seq (.ops [ oq 56 (.mv (.t 10)),oq 57 (.fa 12 (.t 6)),oz (.store 1 (.t 57) (.t 56))]) (.seq (.ops [ oq 58 (.ld (some 13) (.t 6)),oe 59 (.call 12 [(.t 58)])]) (.cond (.t 59) (.seq (.ops [ oq 60 (.build [(.int .i64 0),(.int .i64 0),(.str []),(.int .i64 0),(.int .i64 0),(.bool false),(.bool false),(.int .i64 0),(.int .i64 0),(.bool false),(.bool false),(.sl .full []),.nili] []),oz (.store 13 (.t 4) (.t 60)),oq 5 (.mv (.v (.int .i64 3)))]) .ret) .skip))) (.seq (.ops [ oq 61 (.ld (some 13) (.t 6)),oz (.store 13 (.t 4) (.t 61)),oq 5 (.mv (.v (.int .i64 0)))]) .ret)))
def c56_54:ACode := .seq (.ops [ oe 4 (.alloc [(.int .i64 0),(.int .i64 0),(.str []),(.int .i64 0),(.int .i64 0),(.bool false),(.bool false),(.int .i64 0),(.int .i64 0),(.bool false),(.bool false),(.sl .full []),.nili]),oq 5 (.mv (.v (.int .i64 0)))]) (.seq (.ops [ oe 6 (.alloc [(.int .i64 0),(.int .i64 0),(.str []),(.int .i64 0),(.int .i64 0),(.bool false),(.bool false),(.int .i64 0),(.int .i64 0),(.bool false),(.bool false),(.sl .full []),.nili])]) (.seq (.ops [ oq 12 (.mv (.t 0)),oe 13 (.call 53 [(.t 12)]),oq 7 (.mv (.t 13))]) (.seq (.seq (.ops [ oq 14 (.mv (.t 0)),oe 15 (.call 54 [(.t 14)]),oq 16 (.bin .neq (.t 15) (.v (.int .i64 0)))]) (.cond (.t 16) (.seq (.ops [ oq 17 (.ld (some 13) (.t 6)),oq 18 (.mv (.t 0)),⟨some 19,none,.e (.call 54 [(.t 18)]),[⟨none,.ld (some 13) (.t 6),17⟩]⟩,oz (.store 13 (.t 4) (.t 17)),oq 5 (.mv (.t 19))]) .ret) .skip)) (.seq (.seq (.ops [ oq 20 (.mv (.t 7)),oq 21 (.bin .gtr (.t 20) (.v (.int .u64 2))),oq 22 (.mv (.t 21)),⟨some 23,some (22,false),.q (.mv (.t 7)),[]⟩,⟨some 24,some (22,false),.q (.bin .eql (.t 23) (.v (.int .u64 0))),[]⟩,⟨some 25,some (22,false),.q (.mv (.t 24)),[]⟩,⟨some 26,some (25,true),.q (.mv (.t 1)),[]⟩,⟨some 27,some (25,true),.q (.un .not (.t 26)),[]⟩,⟨some 28,some (22,false),.q (.pick (.t 25) (.t 27) (.v (.bool false))),[]⟩,oq 29 (.pick (.t 22) (.v (.bool true)) (.t 28))]) (.cond (.t 29) (.seq (.ops [ oq 30 (.ld (some 13) (.t 6)),oz (.store 13 (.t 4) (.t 30)),oq 5 (.mv (.v (.int .i64 3)))]) .ret) .skip)) (.seq (.seq (.ops [ oq 31 (.mv (.t 7)),oq 32 (.bin .eql (.t 31) (.v (.int .u64 0)))]) (.cond (.t 32) (.seq (.ops [ oq 33 (.ld (some 13) (.t 6)),oz (.store 13 (.t 4) (.t 33)),oq 5 (.mv (.v (.int .i64 0)))]) .ret) .skip)) (.seq (.seq (.ops [ oq 34 (.mv (.t 7)),oq 35 (.bin .eql (.t 34) (.v (.int .u64 2)))]) (.cond (.t 35) (.seq (.ops [ oq 37 (.mv (.t 0)),oe 38 (.call 96 [(.t 37)]),oq 36 (.mv (.t 38)),oq 39 (.ext 0 (.t 36)),oq 40 (.ext 1 (.t 36)),oe 8 (.alloc [(.int .i64 0),(.int .i64 0),(.str []),(.int .i64 0),(.int .i64 0),(.bool false),(.bool false),(.int .i64 0),(.int .i64 0),(.bool false),(.bool false),(.sl .full [])]),oz (.store 12 (.t 8) (.t 39)),oq 9 (.mv (.t 40))]) (.seq (.seq (.ops [ oq 41 (.mv (.t 9)),oq 42 (.bin .neq (.t 41) (.v (.int .i64 0)))]) (.cond (.t 42) (.seq (.ops [ oq 43 (.build [(.int .i64 0),(.int .i64 0),(.str []),(.int .i64 0),(.int .i64 0),(.bool false),(.bool false),(.int .i64 0),(.int .i64 0),(.bool false),(.bool false),(.sl .full []),.nili] []),oq 44 (.mv (.t 9)),oz (.store 13 (.t 4) (.t 43)),oq 5 (.mv (.t 44))]) .ret) .skip)) (.ops [ oq 45 (.ld (some 12) (.t 8)),oq 46 (.fa 0 (.t 6)),oz (.store 12 (.t 46) (.t 45))]))) .skip)) c56_47))))))
@[go_sem] def c56_47_wp:=wp_of c56_47.eq_1
@[go_sem] def c56_54_wp:=wp_of c56_54.eq_1
def c56:AFn:=⟨62,[.c 4 (some 13),.t 5],c56_54⟩
theorem c56_ok:compF Tryz.prog Tryz.f56=some c56:=by kernel_rfl
theorem a56 {args:List AV} {σ:ASt} {R:AV->ASt->Prop} (hl:args.length<=62) (h:c56_54.wp Tryz.prog (RetQ [.c 4 (some 13),.t 5] R) (init args) σ):ACalls Tryz.prog 56 args σ R:=aFq Tryz.func56 c56_ok hl h
end Go.A
namespace Go.A
open Go.Proofs Go.Lib Go.Vint
def endC (t:Nd) (G:PV×Int×Nat):TC×Int×Nat:=if G.2.1≠0 then (zTC,G.2.1,G.2.2) else if TC.empty ⟨t,some G.1⟩=true then (zTC,3,G.2.2) else (⟨t,some G.1⟩,0,G.2.2)
def getC (s:List UInt8) (p:Nat) (em:Bool):TC×Int×Nat:=
 if (readU s p 0).2.2≠0 then (zTC,(readU s p 0).2.2,(readU s p 0).2.1)
 else if 2<(readU s p 0).1\/((readU s p 0).1=0/\em=false) then (zTC,3,(readU s p 0).2.1)
 else if (readU s p 0).1=0 then (zTC,0,(readU s p 0).2.1)
 else if (readU s p 0).1=2 then
  if (treeR s 2101 (readU s p 0).2.1).2.1≠0 then (zTC,(treeR s 2101 (readU s p 0).2.1).2.1,(treeR s 2101 (readU s p 0).2.1).2.2.1)
  else endC (treeR s 2101 (readU s p 0).2.1).1 (getV s (treeR s 2101 (readU s p 0).2.1).2.2.1)
 else endC zNd (getV s (readU s p 0).2.1)
def GotC (s:List UInt8) (b:Nat) (σ:ASt) (G:TC×Int×Nat) (v:AV) (σ':ASt):Prop:=v = .tuple [G.1.av,.int .i64 G.2.1]/\∃ P E,σ'=σ.set b (rd s P E)/\(G.2.1=0->P=G.2.2/\E=0)
theorem U8.objs {σ:ASt} (h:U8 σ) {b:Nat} {cs:List AV} {r:Option Role} (hb:σ b=some (.obj cs)):U8 (σ.set b r):=by
 unfold U8 at h ⊢
 obtain ⟨h1,h2⟩:=h
 constructor
 ·rw [ASt.set_ne]
  ·exact h1
  ·rintro rfl;rw [hb] at h1;cases h1
 ·rw [ASt.set_ne]
  ·exact h2
  ·rintro rfl;rw [hb] at h2;cases h2
def headCs (op n:Int) (x:List UInt8) (a c:Ref) (kv:AV):List AV := [.int .i64 op,.int .i64 n,.str x,.int .i64 a.row,.int .i64 a.col,.bool a.absRow,.bool a.absCol,.int .i64 c.row,.int .i64 c.col,.bool c.absRow,.bool c.absCol,kv]
set_option maxHeartbeats 4000000 in
theorem tget_ok {σ:ASt} (hU:U8 σ) (s:List UInt8) (p b:Nat) (hb:σ b=rd s p 0) (hs:s.length<=10000000) (hp:p<=s.length) (em:Bool) :
  ACalls Tryz.prog 56 [.ptr b 0,.bool em] σ (GotC s b σ (getC s p em)):=by
 obtain ⟨G,hG⟩:∃ G,getC s p em=G:=⟨_,rfl⟩
 rw [hG]
 unfold getC at hG
 obtain ⟨f1,f2,f3,f4⟩:=rUq s p 0 hp
 have hR:=fun (τ:ASt) (h:τ b=rd s p 0)=>ruint_ok s p 0 b τ h (by omega) hp
 have hV:=fun (τ:ASt) (P:Nat) (hP:P<=s.length) (hU:U8 τ) (h:τ b=rd s P 0)=>vgetR_ok hU s P b h hs hP
 have hT:=fun (τ:ASt) (P:Nat) (hP:P<=s.length) (hU:U8 τ) (h:τ b=rd s P 0)=>eReadP_ok s hs b P hP τ hU h
 have hTF:=fun (P:Nat) (hP:P<=s.length)=>treeR_facts s 2101 P hP
 have hE:=fun (τ:ASt) (P:Nat) (E:Int) (h:τ b=rd s P E)=>rerr_ok s P E b τ h
 have hbne:∀ {c:Nat},σ c=none->c≠b:=fun {c} hc=>by rintro rfl;rw [hb] at hc;cases hc
 generalize readU s p 0=R at *
 obtain ⟨u,p1,e1⟩:=R
 dsimp only at *
 refine ACalls.retd (K:=fun v σ'=>GotC s b σ G (Go.A.deep v) σ') ?_ (fun v σ' h=>h)
 obtain ⟨F,hF⟩:∃ F,F=ACode.wp Tryz.prog c56_47:=⟨_,rfl⟩
 have hz:Go.A.deep (.agg [.int .i64 0,.int .i64 0,.str [],.int .i64 0,.int .i64 0,.bool false,.bool false,.int .i64 0,.int .i64 0,.bool false,.bool false,.sl .full [],.nili])=zTC.av:=rfl
 have hgo:∀ (τ:ASt) (c4 c6 P:Nat) (op n:Int) (x:List UInt8) (a c:Ref) (kv:AV) (ks:List Nd) (a0:AFr),P<=s.length->U8 τ->τ b=rd s P 0->Go.A.deep kv = .sl .shr (ks.map Nd.av)->kv.leaf=true->kv.cells = [kv]->kv.isAny=false →
   τ c4=some (.obj [.int .i64 0,.int .i64 0,.str [],.int .i64 0,.int .i64 0,.bool false,.bool false,.int .i64 0,.int .i64 0,.bool false,.bool false,.sl .full [],.nili])->τ c6=some (.obj (headCs op n x a c kv ++ [.nili]))->σ c4=none->σ c6=none->c4≠c6->(∀ y,y≠b->σ y=τ y\/σ y=none) →
   (a0 0 = .ptr b 0/\a0 4 = .ptr c4 0/\a0 6 = .ptr c6 0)->F (RetQ [.c 4 (some 13),.t 5] fun v σ'=>GotC s b σ (endC (.mk op n x a c ks) (getV s P)) (Go.A.deep v) σ') a0 τ:=by
  intro τ c4 c6 P op n x a c kv ks a0 hP hU2 hτb hkv hkl hkc hka h4 h6 hs4 hs6 h46 hout hf
  have n4:=hbne hs4
  have n6:=hbne hs6
  have n4':b≠c4:=Ne.symm n4
  have n6':b≠c6:=Ne.symm n6
  have h64:c6≠c4:=Ne.symm h46
  have hV:=hV τ P hP hU2 hτb
  have hdr:∀ (X:Option Role) (Y Z:Option Role),Drop (((τ.set b X).set c6 Y).set c4 Z) (σ.set b X):=fun X Y Z y=>by
   by_cases hy4:y=c4
   ·rw [hy4,ASt.set_ne n4];exact .inr hs4
   by_cases hy6:y=c6
   ·rw [hy6,ASt.set_ne n6];exact .inr hs6
   rw [ASt.set_ne hy4,ASt.set_ne hy6]
   by_cases hyb:y=b
   ·rw [hyb,ASt.set_same,ASt.set_same];exact .inl rfl
   ·rw [ASt.set_ne hyb,ASt.set_ne hyb];exact hout y hyb
  have hdr2:∀ (X:Option Role) (Z:Option Role),Drop ((τ.set b X).set c4 Z) (σ.set b X):=fun X Z y=>by
   by_cases hy4:y=c4
   ·rw [hy4,ASt.set_ne n4];exact .inr hs4
   rw [ASt.set_ne hy4]
   by_cases hyb:y=b
   ·rw [hyb,ASt.set_same,ASt.set_same];exact .inl rfl
   ·rw [ASt.set_ne hyb,ASt.set_ne hyb];exact hout y hyb
  rw [hF]
  simp (disch:=first|assumption|omega) only [go_sem,hf]
  refine hV.mono ?_
  rintro v σ1 ⟨rfl,P2,E2,rfl,hPE⟩
  generalize getV s P=V at *
  obtain ⟨vv,ve,vp⟩:=V
  dsimp only at hPE ⊢
  unfold endC
  dsimp only
  by_cases hve:ve=0
  ·subst hve
   rw [if_neg (by simp)]
   obtain ⟨rfl,rfl⟩:=hPE rfl
   have hcell:Go.A.deep (.agg [.int .i64 op,.int .i64 n,.str x,.int .i64 a.row,.int .i64 a.col,.bool a.absRow,.bool a.absCol,.int .i64 c.row,.int .i64 c.col,.bool c.absRow,.bool c.absCol,kv,vv.av])=TC.av ⟨.mk op n x a c ks,some vv⟩:=by
    simp only [deep_agg,deeps_cons,deeps_nil,deep_int,deep_str,deep_bool,hkv,pv_deep]
    rfl
   have hEm:=tcEmpty_ok ⟨.mk op n x a c ks,some vv⟩
   have h6':τ c6=some (.obj [.int .i64 op,.int .i64 n,.str x,.int .i64 a.row,.int .i64 a.col,.bool a.absRow,.bool a.absCol,.int .i64 c.row,.int .i64 c.col,.bool c.absRow,.bool c.absCol,kv,.nili]):=h6
   have va:=PV.av_any vv
   have vl:=PV.av_leaf vv
   have vc:=PV.av_cells vv
   generalize TC.empty ⟨.mk op n x a c ks,some vv⟩=emp at *
   obtain ⟨cav,hcav⟩:∃ cav,TC.av ⟨.mk op n x a c ks,some vv⟩=cav:=⟨_,rfl⟩
   rw [hcav] at hEm hcell
   generalize vv.av=w at *
   simp (disch:=first|assumption|omega) only [go_sem,hf,h6',va,vl,vc]
   refine ACalls.deep (args' := [cav]) (by rw [deeps_cons,hcell];rfl) (hEm.use ?_)
   cases emp with
   | true=>
     rw [if_pos rfl]
     simp (disch:=first|assumption|omega) only [go_sem,hf,h4]
     exact retC_by (hdr _ _ _) (.refl _) ⟨rfl,P2,0,rfl,fun h=>by cases h⟩
   | false=>
     rw [if_neg (by simp)]
     simp (disch:=first|assumption|omega) only [go_sem,hf,h4,hkl,hkc,hka,va,vl,vc]
     exact retC_by (hdr _ _ _) (.refl _) ⟨by rw [hcav,← hcell];rfl,P2,0,rfl,fun _=>⟨rfl,rfl⟩⟩
  ·rw [if_pos hve]
   simp (disch:=first|assumption|omega) only [go_sem,hf,hve,h4]
   exact retC_by (hdr2 _ _) (.refl _) ⟨rfl,P2,E2,rfl,fun h=>absurd h hve⟩
 refine a56 (by simp) ?_
 simp (disch:=first|assumption|omega) only [go_sem]
 refine aBq fun c4 h4=>?_
 have n4:=hbne h4
 have n4':b≠c4:=Ne.symm n4
 simp (disch:=first|assumption|omega) only [go_sem]
 refine aBq fun c6 h6=>?_
 repeat (with_reducible replace h6:=set_none h6;obtain ⟨_,_,h6⟩:=h6)
 have n6:=hbne h6
 have n6':b≠c6:=Ne.symm n6
 have h64:c6≠c4:=by assumption
 have h46:c4≠c6:=Ne.symm h64
 obtain ⟨Z,hZ⟩:∃ Z,Z=([.int .i64 0,.int .i64 0,.str [],.int .i64 0,.int .i64 0,.bool false,.bool false,.int .i64 0,.int .i64 0,.bool false,.bool false,.sl .full [],.nili]:List AV):=⟨_,rfl⟩
 rw [<-hZ] at hgo hz ⊢
 have hZl:Z.length=13:=by rw [hZ];rfl
 have hZv:leaves Z=true:=by rw [hZ];rfl
 have hZt:Z.take 13=Z:=by rw [hZ];rfl
 have hZd:Z.drop 13 = []:=by rw [hZ];rfl
 have hgz:∀ e:Int,Go.A.deep (.tuple [.agg Z,.int .i64 e]) = .tuple [zTC.av,.int .i64 e]:=fun e=>by rw [deep_tuple,deeps_cons,hz];rfl
 have hdr:∀ (X:Option Role) (A B C:Option Role),Drop ((((σ.set c4 A).set c6 B).set b X).set c4 C) (σ.set b X):=fun X A B C y=>by
  by_cases hy4:y=c4
  ·rw [hy4,ASt.set_ne n4];exact .inr h4
  rw [ASt.set_ne hy4]
  by_cases hyb:y=b
  ·rw [hyb,ASt.set_same,ASt.set_same];exact .inl rfl
  rw [ASt.set_ne hyb,ASt.set_ne hyb]
  by_cases hy6:y=c6
  ·rw [hy6];exact .inr h6
  rw [ASt.set_ne hy6,ASt.set_ne hy4];exact .inl rfl
 have hU2:∀ (P:Nat) (E:Int),U8 (((σ.set c4 (some (.obj Z))).set c6 (some (.obj Z))).set b (rd s P E)):=fun P E=>by
  have h1:U8 ((σ.set c4 (some (.obj Z))).set c6 (some (.obj Z))):=(hU.set h4).set (by rw [ASt.set_ne h64];exact h6)
  exact U8.rd h1 (p:=p) (e:=0) (by rw [ASt.set_ne n6',ASt.set_ne n4'];exact hb) P E
 have hR:=hR ((σ.set c4 (some (.obj Z))).set c6 (some (.obj Z))) (by rw [ASt.set_ne n6',ASt.set_ne n4'];exact hb)
 have hE1:=hE (((σ.set c4 (some (.obj Z))).set c6 (some (.obj Z))).set b (rd s p1 e1)) p1 e1 (ASt.set_same _ _ _)
 simp (disch:=first|assumption|omega) only [go_sem]
 refine hR.mono ?_
 rintro v σ1 ⟨rfl,rfl⟩
 simp (disch:=first|assumption|omega) only [go_sem]
 refine hE1.mono ?_
 rintro v σ1 ⟨rfl,rfl⟩
 by_cases he1:e1=0
 ·subst he1
  rw [if_neg (by simp)] at hG
  by_cases hu2:2<u
  ·rw [if_pos (.inl hu2)] at hG
   subst hG
   have hu2':(2:Int)<(u:Int):=by omega
   simp (disch:=first|assumption|omega) only [go_sem,hu2',hZl,hZv,hZt,hZd,List.drop_zero]
   exact retC_by (hdr _ _ _ _) (.refl _) ⟨hgz 3,p1,0,rfl,fun h=>by cases h⟩
  have hu2':¬ (2:Int)<(u:Int):=by omega
  by_cases hu0:u=0
  ·subst hu0
   cases em with
   | false=>
     rw [if_pos (.inr ⟨rfl,rfl⟩)] at hG
     subst hG
     simp (disch:=first|assumption|omega) only [go_sem,hZl,hZv,hZt,hZd,List.drop_zero]
     exact retC_by (hdr _ _ _ _) (.refl _) ⟨hgz 3,p1,0,rfl,fun h=>by cases h⟩
   | true=>
     rw [if_neg (by simp),if_pos rfl] at hG
     subst hG
     simp (disch:=first|assumption|omega) only [go_sem,hZl,hZv,hZt,hZd,List.drop_zero]
     exact retC_by (hdr _ _ _ _) (.refl _) ⟨hgz 0,p1,0,rfl,fun _=>⟨rfl,rfl⟩⟩
  have hu0':¬ (u:Int)=0:=by omega
  rw [if_neg (by rintro (h|⟨h,_⟩)<;>omega),if_neg hu0] at hG
  by_cases hk2:u=2
  ·subst hk2
   rw [if_pos rfl] at hG
   have hT:=hT (((σ.set c4 (some (.obj Z))).set c6 (some (.obj Z))).set b (rd s p1 0)) p1 f2 (hU2 p1 0) (ASt.set_same _ _ _)
   have hTF:=hTF p1 f2
   generalize treeR s 2101 p1=T at *
   obtain ⟨t,te,P,E⟩:=T
   obtain ⟨op,n,x,ra,rc,ks⟩:=t
   rw [ASt.set_set] at hT
   dsimp only at hT hTF hG
   rw [Nd.av_cs] at hT
   unfold Nd.cs at hT
   have hkv:Go.A.deep (.sl .shr (ks.map Nd.av)) = .sl .shr (ks.map Nd.av):=by rw [deep_sl,deeps_map]
   have hgo:=hgo
   by_cases hte:te=0
   ·subst hte
    obtain rfl:=hTF.2 rfl
    rw [if_neg (by simp)] at hG
    subst hG
    have hgo:=fun (τ:ASt) (a0:AFr)=>hgo τ c4 c6 P op n x ra rc (.sl .shr (ks.map Nd.av)) ks a0 hTF.1
    generalize ks.map Nd.av=KL at *
    simp (disch:=first|assumption|omega) only [go_sem,←hF]
    refine hT.mono ?_
    rintro v σ1 ⟨rfl,rfl⟩
    simp (disch:=first|assumption|omega) only [go_sem,←hF]
    refine aBq fun c8 h8=>?_
    have h8b:c8≠b:=by rintro rfl;unfold A.rd at h8;rw [ASt.set_same] at h8;cases h8
    rw [ASt.set_ne h8b] at h8
    have h86:c8≠c6:=by rintro rfl;rw [ASt.set_same] at h8;cases h8
    rw [ASt.set_ne h86] at h8
    have h84:c8≠c4:=by rintro rfl;rw [ASt.set_same] at h8;cases h8
    rw [ASt.set_ne h84] at h8
    have h6b:c6≠c8:=Ne.symm h86
    have hZ6:Z.drop 12 = [.nili]:=by rw [hZ];rfl
    have h8b':b≠c8:=Ne.symm h8b
    have h84':c4≠c8:=Ne.symm h84
    simp (disch:=first|assumption|omega) only [go_sem,hZl,hZ6,ASt.set_set,←hF]
    have hS8:(((σ.set c4 (some (.obj Z))).set c6 (some (.obj Z))).set b (rd s P 0)) c8=none:=by rw [ASt.set_ne h8b,ASt.set_ne h86,ASt.set_ne h84];exact h8
    refine hgo _ _ (U8.objs (cs:=Z) (U8.set (hU2 P 0) hS8) ?_) ?_ hkv rfl rfl rfl ?_ (ASt.set_same _ _ _) h4 h6 h46 (fun y hy=>?_) ?_
    ·rw [ASt.set_ne h6b,ASt.set_ne n6,ASt.set_same]
    ·rw [ASt.set_ne n6',ASt.set_ne h8b',ASt.set_same]
    ·rw [ASt.set_ne h46,ASt.set_ne h84',ASt.set_ne n4,ASt.set_ne h46,ASt.set_same,hZ]
    ·by_cases y4:y=c4
     ·rw [y4];exact .inr h4
     by_cases y6:y=c6
     ·rw [y6];exact .inr h6
     by_cases y8:y=c8
     ·rw [y8];exact .inr h8
     rw [ASt.set_ne y6,ASt.set_ne y8,ASt.set_ne hy,ASt.set_ne y6,ASt.set_ne y4]
     exact .inl rfl
    ·simp (disch:=first|assumption|omega) only [go_sem]
   ·rw [if_pos hte] at hG
    subst hG
    generalize ks.map Nd.av=KL at *
    simp (disch:=first|assumption|omega) only [go_sem,←hF]
    refine hT.mono ?_
    rintro v σ1 ⟨rfl,rfl⟩
    simp (disch:=first|assumption|omega) only [go_sem,←hF]
    refine aBq fun c8 h8=>?_
    have h8b:c8≠b:=by rintro rfl;unfold A.rd at h8;rw [ASt.set_same] at h8;cases h8
    rw [ASt.set_ne h8b] at h8
    have h86:c8≠c6:=by rintro rfl;rw [ASt.set_same] at h8;cases h8
    rw [ASt.set_ne h86] at h8
    have h84:c8≠c4:=by rintro rfl;rw [ASt.set_same] at h8;cases h8
    rw [ASt.set_ne h84] at h8
    have h84':c4≠c8:=Ne.symm h84
    simp (disch:=first|assumption|omega) only [go_sem,hte,hZl,hZv,hZt,hZd,List.drop_zero,ASt.set_set,←hF]
    refine retC_by (σ':=σ.set b (rd s P E)) (fun y=>?_) (.refl _) ⟨(by first|exact hgz te|(have h:=hgz te;rw [hZ] at h;exact h)),P,E,rfl,fun h=>absurd h hte⟩
    by_cases y4:y=c4
    ·rw [y4,ASt.set_ne n4];exact .inr h4
    by_cases y6:y=c6
    ·rw [y6,ASt.set_ne n6];exact .inr h6
    by_cases y8:y=c8
    ·rw [y8,ASt.set_ne h8b];exact .inr h8
    rw [ASt.set_ne y4,ASt.set_ne y8]
    by_cases yb:y=b
    ·rw [yb,ASt.set_same,ASt.set_same];exact .inl rfl
    rw [ASt.set_ne yb,ASt.set_ne yb,ASt.set_ne y6,ASt.set_ne y4]
    exact .inl rfl
  ·rw [if_neg hk2] at hG
   subst hG
   have hk2':¬ (u:Int)=2:=by omega
   simp (disch:=first|assumption|omega) only [go_sem,hu2',hu0',hk2',←hF]
   refine hgo _ c4 c6 p1 0 0 [] .zero .zero (.sl .full []) [] _ f2 (hU2 p1 0) (ASt.set_same _ _ _) rfl rfl rfl rfl ?_ ?_ h4 h6 h46 (fun y hy=>?_) ?_
   ·rw [ASt.set_ne n4,ASt.set_ne h46,ASt.set_same,hZ]
   ·rw [ASt.set_ne n6,ASt.set_same,hZ];rfl
   ·by_cases y4:y=c4
    ·rw [y4];exact .inr h4
    by_cases y6:y=c6
    ·rw [y6];exact .inr h6
    rw [ASt.set_ne hy,ASt.set_ne y6,ASt.set_ne y4]
    exact .inl rfl
   ·simp (disch:=first|assumption|omega) only [go_sem]
 ·rw [if_pos he1] at hG
  subst hG
  simp (disch:=first|assumption|omega) only [go_sem,he1,hZl,hZv,hZt,hZd,List.drop_zero]
  refine hE1.mono ?_
  rintro v σ1 ⟨rfl,rfl⟩
  simp (disch:=first|assumption|omega) only [go_sem,hZl,hZv,hZt,hZd,List.drop_zero]
  exact retC_by (hdr _ _ _ _) (.refl _) ⟨hgz e1,p1,e1,rfl,fun h=>absurd h he1⟩
end Go.A
namespace Go.A
open Go.Vint
theorem numsB_drop {l:List Int} {i:Nat} {g:Int} (h:l[i]? = some g):numsB (l.drop i)=uintB g.toNat++numsB (l.drop (i+1)):=by
 obtain ⟨h1,h2⟩:=List.getElem?_eq_some_iff.1 h
 rw [List.drop_eq_getElem_cons h1,h2];rfl
theorem take_last {L:List Int} {j:Nat} {y:Int} (h:L[j]? = some y):(L.take (j+1)).getLast? = some y:=by
 obtain ⟨h1,h2⟩:=List.getElem?_eq_some_iff.1 h
 rw [List.take_succ_eq_append_getElem h1,h2];simp
theorem take_snoc {L:List Int} {j:Nat} {y:Int} (h:L[j]? = some y):L.take j ++ [y]=L.take (j+1):=by
 obtain ⟨h1,h2⟩:=List.getElem?_eq_some_iff.1 h
 rw [List.take_succ_eq_append_getElem h1,h2]
theorem gap_at {L:List Int} (hL:Rises L) {i:Nat} {x:Int} (hx:L[i]? = some x):∃ g:Nat,(gaps L)[i]? = some (g:Int)/\g<18446744073709551616 ∧
  ((i=0/\x=g)\/∃ j y,i=j+1/\L[j]? = some y/\0<=y/\y+g+1=x/\x<=18446744073709551615):=by
 obtain ⟨x0,x1⟩:=hL.at_ hx
 cases i with
 | zero=>exact ⟨x.toNat,by rw [gaps_zero hx];congr 1;omega,by omega,.inl ⟨rfl,by omega⟩⟩
 | succ j=>
   have hlt:=(List.getElem?_eq_some_iff.1 hx).1
   have hy : L[j]? = some (L[j]'(by omega)) := List.getElem?_eq_getElem (by omega)
   obtain ⟨y, hyy⟩ : ∃ y, L[j]'(by omega) = y := ⟨_, rfl⟩
   rw [hyy] at hy
   obtain ⟨y0,y1⟩:=hL.at_ hy
   have:=hL.2 j y x hy hx
   exact ⟨(x-y-1).toNat,by rw [gaps_succ hy hx];congr 1;omega,by omega,.inr ⟨j,y,rfl,hy,y0,by omega,x1⟩⟩
theorem risF_back {L:List Int} (hL:Rises L) {s r:List UInt8}:∀ (k i p:Nat),i+k=L.length->s.drop p=numsB ((gaps L).drop i)++r->risF s k (L.take i) p 0=(L,p+(numsB ((gaps L).drop i)).length,0)
 | 0,i,p,hk,h=>by
   have e1:L.take i=L:=List.take_of_length_le (by omega)
   have e2:(gaps L).drop i = []:=List.drop_eq_nil_of_le (by rw [gaps_length];omega)
   rw [e1,e2];rfl
 | k+1,i,p,hk,h=>by
   have hx : L[i]? = some (L[i]'(by omega)) := List.getElem?_eq_getElem (by omega)
   obtain ⟨x, hxx⟩ : ∃ x, L[i]'(by omega) = x := ⟨_, rfl⟩
   rw [hxx] at hx
   obtain ⟨g,hg,hg1,hcase⟩:=gap_at hL hx
   have hn:=numsB_drop hg
   rw [Int.toNat_natCast] at hn
   rw [hn,List.append_assoc] at h
   have hr:=readU_uint h hg1
   have hd:=drop_app h
   have ih:=risF_back hL k (i+1) (p+(uintB g).length) (by omega) hd
   rw [hn,List.length_append,← Nat.add_assoc,← ih]
   rcases hcase with ⟨rfl,rfl⟩|⟨j,y,rfl,hy,y0,hxy,x1⟩
   ·rw [risF,if_neg (by simp)]
    simp only [List.take_zero,List.getLast?_nil,hr,List.nil_append]
    rw [<-take_snoc hx,List.take_zero,List.nil_append]
   ·have ha:afterP s p 0 y=(x,p+(uintB g).length,0):=by
     unfold afterP
     rw [hr]
     dsimp only
     rw [if_neg (by omega),hxy,Int.emod_eq_of_lt (by omega) (by omega)]
    rw [show risF s (k+1) (L.take (j+1)) p 0=risF s k (L.take (j+1) ++ [(afterP s p 0 y).1]) (afterP s p 0 y).2.1 (afterP s p 0 y).2.2 by
     rw [risF,if_neg (by simp),take_last hy]]
    rw [ha]
    dsimp only
    rw [take_snoc hx]
theorem count_back {s r:List UInt8} {p n most:Nat} (h:s.drop p=uintB n++r) (hn:n<=most) (hm:most<=1000000):countP s p 0 most=(n,p+(uintB n).length,0):=by
 have hr:=readU_uint h (by omega)
 unfold countP
 rw [hr]
 dsimp only
 rw [if_neg (by simp),if_neg (by omega)]
theorem risingR_back {L:List Int} (hL:Rises L) {s r:List UInt8} {p most:Nat} (h:s.drop p=risingB L++r) (hn:L.length<=most) (hm:most<=1000000):risingR s p 0 most=(L,p+(risingB L).length,0):=by
 unfold risingB at h ⊢
 rw [List.append_assoc] at h
 have hc:=count_back h hn hm
 have hd:=drop_app h
 have:=risF_back hL (s:=s) (r:=r) L.length 0 (p+(uintB L.length).length) (by omega) (by simpa using hd)
 simp only [List.take_zero,List.drop_zero] at this
 unfold risingR
 rw [hc]
 dsimp only
 rw [this]
 dsimp only
 rw [if_neg (by simp),List.length_append,Nat.add_assoc]
end Go.A
namespace Go.A
open Go.Proofs
/-! 25: tabular/tile.Read -/
def c25_8:ACode := .ops [ oq 30 (.build (List.flatten (List.replicate 32 [(.int .i64 0),(.int .i64 0),(.str []),(.int .i64 0),(.int .i64 0),(.bool false),(.bool false),(.int .i64 0),(.int .i64 0),(.bool false),(.bool false),(.sl .full []),.nili])) []),oe 31 (.box (.t 30)),oq 7 (.mv (.t 31))]
def c25_22:ACode := .seq (.ops [ oq 37 (.bin .lss (.t 36) (.v (.int .i64 32)))]) (.seq (.cond (.t 37) .skip (.exit 0)) (.seq (.block 1 (.seq (.ops [ oq 38 (.mv (.t 36)),oq 9 (.mv (.t 38))]) (.ops [ oq 39 (.mv (.t 8)),oq 40 (.mv (.t 6)),oq 41 (.conv .i64 (.t 40)),oq 42 (.mv (.t 9)),oe 43 (.call 42 [(.t 41),(.t 42)]),oq 44 (.conv .u64 (.t 43)),oq 45 (.bsl 1 [(.t 44)]),oe 46 (.app 94 1 8 [(.int .u64 0)] (.t 39) (.t 45)),oq 8 (.mv (.t 46))]))) (.ops [ oq 47 (.bin .add (.t 36) (.v (.int .i64 1))),oq 36 (.mv (.t 47))])))
def c25_57:ACode := .seq (.ops [ oq 56 (.bin .lss (.t 55) (.t 54))]) (.seq (.cond (.t 56) .skip (.exit 2)) (.seq (.block 3 (.seq (.ops [ oq 57 (.ia 1 (.t 53) (.t 55)),oq 58 (.ld none (.t 57)),oq 11 (.mv (.t 58))]) (.seq (.seq (.ops [ oq 59 (.mv (.t 11)),oq 60 (.bin .geq (.t 59) (.v (.int .u64 32)))]) (.cond (.t 60) (.seq (.ops [ oq 2 (.mv (.v .nilp)),oq 3 (.mv (.v (.int .i64 0))),oq 4 (.mv (.v (.int .i64 3)))]) .ret) .skip)) (.seq (.ops [ oq 62 (.mv (.t 5)),oq 63 (.mv (.t 6)),oq 64 (.bin .neq (.t 63) (.v (.int .u64 3))),oe 65 (.call 56 [(.t 62),(.t 64)]),oq 61 (.mv (.t 65)),oq 66 (.ext 0 (.t 61)),oq 67 (.ext 1 (.t 61)),oe 12 (.alloc [(.int .i64 0),(.int .i64 0),(.str []),(.int .i64 0),(.int .i64 0),(.bool false),(.bool false),(.int .i64 0),(.int .i64 0),(.bool false),(.bool false),(.sl .full []),.nili]),oz (.store 13 (.t 12) (.t 66)),oq 13 (.mv (.t 67))]) (.seq (.seq (.ops [ oq 68 (.mv (.t 13)),oq 69 (.bin .neq (.t 68) (.v (.int .i64 0)))]) (.cond (.t 69) (.seq (.ops [ oq 70 (.mv (.t 13)),oq 2 (.mv (.v .nilp)),oq 3 (.mv (.v (.int .i64 0))),oq 4 (.mv (.t 70))]) .ret) .skip)) (.ops [ oq 71 (.mv (.t 7)),oq 72 (.mv (.t 11)),oq 73 (.ld (some 13) (.t 12)),oq 74 (.nc (.t 71)),oq 75 (.iaa 32 13 (.t 74) (.t 72)),oz (.store 13 (.t 75) (.t 73))])))))) (.ops [ oq 76 (.bin .add (.t 55) (.v (.int .i64 1))),oq 55 (.mv (.t 76))])))
def c25_71:ACode := .seq (.seq (.ops [ oq 53 (.mv (.t 8)),oq 54 (.len (.t 53)),oq 55 (.mv (.v (.int .i64 0)))]) (.block 2 (.loop c25_57))) (.seq (.seq (.ops [ oq 77 (.mv (.t 5)),oe 78 (.call 57 [(.t 77)]),oq 14 (.mv (.t 78))]) (.seq (.ops [ oq 79 (.mv (.t 14)),oq 80 (.bin .neq (.t 79) (.v (.int .i64 0)))]) (.cond (.t 80) (.seq (.ops [ oq 81 (.mv (.t 14)),oq 2 (.mv (.v .nilp)),oq 3 (.mv (.v (.int .i64 0))),oq 4 (.mv (.t 81))]) .ret) .skip))) (.seq (.ops [ oq 82 (.mv (.t 7)),oq 83 (.mv (.t 6)),oq 84 (.conv .i64 (.t 83)),oq 2 (.mv (.t 82)),oq 3 (.mv (.t 84)),oq 4 (.mv (.v (.int .i64 0)))]) .ret))
def c25_72:ACode := .seq (.seq (.ops [ oq 48 (.mv (.t 5)),oe 49 (.call 54 [(.t 48)]),oq 50 (.bin .neq (.t 49) (.v (.int .i64 0)))]) (.cond (.t 50) (.seq (.ops [ oq 51 (.mv (.t 5)),oe 52 (.call 54 [(.t 51)]),oq 2 (.mv (.v .nilp)),oq 3 (.mv (.v (.int .i64 0))),oq 4 (.mv (.t 52))]) .ret) .skip)) c25_71
def c25_73:ACode := .seq (.seq (.ops [ oq 32 (.mv (.t 6)),oq 33 (.bin .eql (.t 32) (.v (.int .u64 3)))]) (.cond (.t 33) (.ops [ oq 34 (.mv (.t 5)),oe 35 (.call 55 [(.t 34),(.v (.int .i64 32))]),oq 8 (.mv (.t 35))]) (.seq (.ops [ oq 36 (.mv (.v (.int .i64 0)))]) (.block 0 (.loop c25_22))))) c25_72
def c25_74:ACode := .seq (.ops [ oq 8 (.mv (.v (.sl .full [])))]) c25_73
def c25_75:ACode := .seq c25_8 c25_74
def c25_76:ACode := .seq (.seq (.ops [ oq 19 (.mv (.t 5)),oe 20 (.call 54 [(.t 19)]),oq 21 (.bin .eql (.t 20) (.v (.int .i64 0))),oq 22 (.mv (.t 21)),⟨some 23,some (22,true),.q (.mv (.t 6)),[]⟩,⟨some 24,some (22,true),.q (.bin .lss (.t 23) (.v (.int .u64 1))),[]⟩,⟨some 25,some (22,true),.q (.mv (.t 24)),[]⟩,⟨some 26,some (25,false),.q (.mv (.t 6)),[]⟩,⟨some 27,some (25,false),.q (.bin .gtr (.t 26) (.v (.int .u64 3))),[]⟩,⟨some 28,some (22,true),.q (.pick (.t 25) (.v (.bool true)) (.t 27)),[]⟩,oq 29 (.pick (.t 22) (.t 28) (.v (.bool false)))]) (.cond (.t 29) (.seq (.ops [ oq 2 (.mv (.v .nilp)),oq 3 (.mv (.v (.int .i64 0))),oq 4 (.mv (.v (.int .i64 3)))]) .ret) .skip)) c25_75
def c25_77:ACode := .seq (.ops [ oq 17 (.mv (.t 5)),oe 18 (.call 53 [(.t 17)]),oq 6 (.mv (.t 18))]) c25_76
def c25_78:ACode := .seq (.ops [ oq 15 (.mv (.t 0)),oe 16 (.call 52 [(.t 15)]),oq 5 (.mv (.t 16))]) c25_77
def c25_79:ACode := .seq (.ops [ oq 2 (.mv (.v .nilp)),oq 3 (.mv (.v (.int .i64 0))),oq 4 (.mv (.v (.int .i64 0)))]) c25_78
@[go_sem] def c25_22_wp:=wp_of c25_22.eq_1
@[go_sem] def c25_57_wp:=wp_of c25_57.eq_1
@[go_sem] def c25_71_wp:=wp_of c25_71.eq_1
def c25:AFn:=⟨85,[.t 2,.t 3,.t 4],c25_79⟩
theorem c25_ok:compF Tryz.prog Tryz.f25=some c25:=by kernel_rfl
theorem a25 {args:List AV} {σ:ASt} {R:AV->ASt->Prop} (hl:args.length<=85) (h:c25_79.wp Tryz.prog (RetQ [.t 2,.t 3,.t 4] R) (init args) σ):ACalls Tryz.prog 25 args σ R:=aFq Tryz.func25 c25_ok hl h
end Go.A
end
