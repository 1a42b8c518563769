/- Part 10 of what TileTyped leans on: Pi CodeOd Od Sd Ya Ye Qe Qf Qd Qg Qh Qa Qi CodeOe Oe Ms Mv Mw Mx. -/
import Derived.Test.YtfnhdjigeedieaaGreatDoorProg
import Derived.KernelRfl
import Derived.Lib.ValidLaws
import Derived.Test.YtfnhdjigeedieaaGreatDoorRows
import Derived.ProofKit
import Derived.LaidMore
import Derived.OpenShut
import Derived.Stop.LaidErr
import Derived.MakeChecks
import Derived.SevenTiedAt
import Derived.Lay
import Derived.ChangeArms
import Derived.Lib.LaidU8
import Derived.Lib.LaidTab
import Derived.Shelf.Vars
import Derived.HandedShaped
import Derived.Test.YtfnhdjigeedieaaGreatDoorZTileTypedi
set_option linter.defProp false
set_option linter.unusedSimpArgs false
set_option linter.unusedVariables false
set_option maxRecDepth 100000
namespace Go.A
open Go.Proofs Go.Lib
structure TokGd (t:Tok):Prop where
 k1:1<=t.kind
 k6:t.kind<=6
 len:t.text.length<=8100
 num:t.kind=1->numB t.text=true
 ref:t.kind=4->∃ w,refB w=true/\t.text=greatP w
 err:t.kind=5->t.text∈errTexts
 nam:t.kind=3->t.text ≠ []
theorem TokGd.of {kd:Int} {t:List UInt8} {a c:Nat} (h1:1<=kd) (h6:kd<=6) (hl:t.length<=8100) (hn:kd=1->numB t=true) (hr:kd=4->∃ w,refB w=true/\t=greatP w) (he:kd=5->t∈errTexts) (hm:kd=3->t ≠ []):TokGd ⟨kd,t,a,c⟩:=⟨h1,h6,hl,hn,hr,he,hm⟩
theorem no1 {p:Prop} {a b:Int} (h:a=b) (hn:decide (a=b)=false):p:=absurd h (of_decide_eq_false hn)
theorem quotedF_len:∀ (k:Nat) (r:List UInt8) (p:Nat) (acc:List UInt8) kd t n,quotedF k r p acc = .tok kd t n->kd=2/\t.length<=acc.length+4*r.length
 | 0,r,p,acc,kd,t,n,h=>by simp [quotedF] at h
 | k+1,r,p,acc,kd,t,n,h=>by
   by_cases hr:r = []
   ·subst hr;rw [quotedF_nil] at h;simp at h
   have hw:=decodeL_width r
   have hle:=decodeL_le r hr
   unfold quotedF at h
   rw [if_neg hr] at h
   split at h
   ·simp at h
   split at h
   ·have:=quotedF_len k _ _ _ kd t n h
    have he:=enc_le ((decodeL r).1:Int)
    rw [List.length_append,List.length_drop] at this
    exact ⟨this.1,by omega⟩
   split at h
   ·rename_i h1 h2 h3
    have hl2:=(List.getElem?_eq_some_iff.1 h3).1
    have:=quotedF_len k _ _ _ kd t n h
    rw [List.length_append,List.length_drop] at this
    simp only [List.length_cons,List.length_nil] at this
    exact ⟨this.1,by omega⟩
   ·simp only [Step.tok.injEq] at h
    obtain ⟨rfl,rfl,rfl⟩:=h
    exact ⟨rfl,by omega⟩
theorem failS_gd (r:List UInt8):∀ (es:List (List UInt8)) kd t n,failS r es = .tok kd t n->kd=5/\t∈es
 | [],kd,t,n,h=>by simp [failS] at h
 | e::es,kd,t,n,h=>by
   unfold failS at h
   split at h
   ·simp only [Step.tok.injEq] at h
    obtain ⟨rfl,rfl,rfl⟩:=h
    exact ⟨rfl,by simp⟩
   ·obtain ⟨h1,h2⟩:=failS_gd r es kd t n h
    exact ⟨h1,by simp [h2]⟩
theorem greatP_len (l:List UInt8):(greatP l).length=l.length:=by unfold greatP;simp
theorem greatP_ne {l:List UInt8} (h:l ≠ []):greatP l ≠ []:=fun e=>h (List.eq_nil_of_length_eq_zero (by rw [<-greatP_len,e];rfl))
theorem nameB_ne {l:List UInt8} (h:nameB l=true):l ≠ []:=by
 unfold nameB at h
 simp only [Bool.and_eq_true,decide_eq_true_eq] at h
 exact h.1.1
theorem alikeP_len (c:Int):(alikeP c).length<=2:=by
 unfold alikeP
 repeat' split
 all_goals decide
theorem stepP_gd (r:List UInt8) (hl:r.length<=2000) {kd:Int} {t:List UInt8} {n:Nat} (h:stepP r = .tok kd t n) (a c:Nat):TokGd ⟨kd,t,a,c⟩:=by
 unfold stepP at h
 dsimp only at h
 split at h
 ·simp at h
 split at h
 ·simp at h
 split at h
 ·unfold wordsS at h
  dsimp only at h
  have hw:(r.take (runL wordB r)).length<=8100:=by rw [List.length_take];omega
  split at h
  ·rename_i hn
   simp only [Step.tok.injEq] at h
   obtain ⟨rfl,rfl,rfl⟩:=h
   exact .of (by decide) (by decide) hw (fun _=>hn) (fun h=>no1 h (by decide)) (fun h=>no1 h (by decide)) (fun h=>no1 h (by decide))
  split at h
  ·rename_i hn
   simp only [Step.tok.injEq] at h
   obtain ⟨rfl,rfl,rfl⟩:=h
   exact .of (by decide) (by decide) (by rw [greatP_len];omega) (fun h=>no1 h (by decide)) (fun _=>⟨_,hn,rfl⟩) (fun h=>no1 h (by decide)) (fun h=>no1 h (by decide))
  split at h
  ·rename_i hn
   simp only [Step.tok.injEq] at h
   obtain ⟨rfl,rfl,rfl⟩:=h
   exact .of (by decide) (by decide) (by rw [greatP_len];omega) (fun h=>no1 h (by decide)) (fun h=>no1 h (by decide)) (fun h=>no1 h (by decide)) (fun _=>greatP_ne (nameB_ne hn))
  ·simp at h
 split at h
 ·obtain ⟨rfl,h2⟩:=quotedF_len _ _ _ _ _ _ _ h
  rw [List.length_drop] at h2
  simp only [List.length_nil] at h2
  exact .of (by decide) (by decide) (by omega) (fun h=>no1 h (by decide)) (fun h=>no1 h (by decide)) (fun h=>no1 h (by decide)) (fun h=>no1 h (by decide))
 split at h
 ·obtain ⟨rfl,h2⟩:=failS_gd _ _ _ _ _ h
  have:=errTexts_len t h2
  exact .of (by decide) (by decide) (by omega) (fun h=>no1 h (by decide)) (fun h=>no1 h (by decide)) (fun _=>h2) (fun h=>no1 h (by decide))
 ·unfold opS at h
  split at h
  ·simp only [Step.tok.injEq] at h
   obtain ⟨rfl,rfl,rfl⟩:=h
   have:=alikeP_len ((decodeL r).1:Int)
   exact .of (by decide) (by decide) (by omega) (fun h=>no1 h (by decide)) (fun h=>no1 h (by decide)) (fun h=>no1 h (by decide)) (fun h=>no1 h (by decide))
  ·split at h
   ·rename_i e he
    simp only [Step.tok.injEq] at h
    obtain ⟨rfl,rfl,rfl⟩:=h
    have:=twos_len e (twoS_fits r _ _ he).1
    exact .of (by decide) (by decide) (by omega) (fun h=>no1 h (by decide)) (fun h=>no1 h (by decide)) (fun h=>no1 h (by decide)) (fun h=>no1 h (by decide))
   ·split at h
    ·simp only [Step.tok.injEq] at h
     obtain ⟨rfl,rfl,rfl⟩:=h
     exact .of (by decide) (by decide) (by rw [List.length_take];omega) (fun h=>no1 h (by decide)) (fun h=>no1 h (by decide)) (fun h=>no1 h (by decide)) (fun h=>no1 h (by decide))
    ·simp at h
theorem lexF_gd:∀ (k:Nat) (r:List UInt8) (a c:Nat) (acc L:List Tok) (x:Nat),r.length<=2000->lexF k r a c acc=(L,x,0)->(∀ t∈acc,TokGd t)->∃ M a' c',L=M ++ [⟨0,[],a',c'⟩]/\(∀ t∈M,TokGd t)/\M.length<=acc.length+r.length
 | 0,r,a,c,acc,L,x,hr,h,hacc=>by simp [lexF] at h
 | k+1,r,a,c,acc,L,x,hr,h,hacc=>by
   rw [lexF] at h
   split at h
   ·simp only [Prod.mk.injEq] at h
    obtain ⟨rfl,_⟩:=h
    exact ⟨acc,a,c,rfl,hacc,by omega⟩
   ·rename_i hne
    have hpos:=List.length_pos_iff.2 hne
    split at h
    ·simp at h
    ·obtain ⟨M,a',c',h1,h2,h3⟩:=lexF_gd k _ _ _ _ _ _ (by rw [List.length_drop];omega) h hacc
     rw [List.length_drop] at h3
     exact ⟨M,a',c',h1,h2,by omega⟩
    ·rename_i kd t n hst
     obtain ⟨f1,f2⟩:=(stepP_fits r hne).2 kd t n hst
     obtain ⟨M,a',c',h1,h2,h3⟩:=lexF_gd k _ _ _ _ _ _ (by rw [List.length_drop];omega) h (fun u hu=>by
      rcases List.mem_append.1 hu with hu|hu
      ·exact hacc u hu
      ·simp at hu;subst hu;exact stepP_gd r hr hst a c)
     rw [List.length_drop,List.length_append,List.length_singleton] at h3
     exact ⟨M,a',c',h1,h2,by omega⟩
theorem lexP_gd {s:List UInt8} (h:(lexP s).2.2=0):∃ M a' c',(lexP s).1=M ++ [⟨0,[],a',c'⟩]/\(∀ t∈M,TokGd t)/\M.length<=2000:=by
 unfold lexP at h ⊢
 split
 ·rename_i hl;rw [if_pos hl] at h;cases h
 ·rename_i hl
  rw [if_neg hl] at h
  obtain ⟨R,hR⟩:∃ R,lexF (s.length+1) s 0 0 []=R:=⟨_,rfl⟩
  rw [hR] at h ⊢
  obtain ⟨L,x,e⟩:=R
  dsimp only at h ⊢
  subst h
  obtain ⟨M,a',c',h1,h2,h3⟩:=lexF_gd _ _ _ _ _ _ _ (by omega) hR (by simp)
  exact ⟨M,a',c',h1,h2,by simp at h3;omega⟩
theorem getD_app_left {M:List Tok} {e:Tok} {i:Nat} (h:i<M.length):(M ++ [e]).getD i endT=M.getD i endT:=by
 rw [List.getD_eq_getElem?_getD,List.getD_eq_getElem?_getD,List.getElem?_append_left h]
theorem getD_mem {M:List Tok} {i:Nat} (h:i<M.length):M.getD i endT∈M:=by
 rw [List.getD_eq_getElem?_getD,List.getElem?_eq_getElem h]
 exact List.getElem_mem h
theorem lex_toks {s:List UInt8} (h:(lexP s).2.2=0):TokOk (lexP s).1/\(lexP s).1.length<=2001/\∀ i,((lexP s).1.getD i endT).kind≠0->TokGd ((lexP s).1.getD i endT):=by
 obtain ⟨M,a',c',h1,h2,h3⟩:=lexP_gd h
 rw [h1]
 have hl:(M ++ [(⟨0,[],a',c'⟩:Tok)]).length=M.length+1:=by simp
 have hlast:(M ++ [(⟨0,[],a',c'⟩:Tok)]).getD M.length endT=⟨0,[],a',c'⟩:=by
  rw [List.getD_eq_getElem?_getD,List.getElem?_append_right (Nat.le_refl _),Nat.sub_self];rfl
 have hout:∀ i,M.length<i->(M ++ [(⟨0,[],a',c'⟩:Tok)]).getD i endT=endT:=fun i hi=>by
  rw [List.getD_eq_getElem?_getD,List.getElem?_eq_none (by rw [hl];omega)];rfl
 have hgd:∀ i,i<M.length->TokGd ((M ++ [(⟨0,[],a',c'⟩:Tok)]).getD i endT):=fun i hi=>by
  rw [getD_app_left hi];exact h2 _ (getD_mem hi)
 refine ⟨⟨⟨by rw [hl];omega,fun i hi=>?_,fun i hi hk=>?_⟩,by rw [hl];omega,fun i=>?_⟩,by rw [hl];omega,fun i hk=>?_⟩
 ·rw [hl] at hi
  obtain rfl:i=M.length:=by omega
  rw [hlast]
 ·rw [hl] at hi ⊢
  rcases Nat.lt_or_ge i M.length with h|h
  ·omega
  ·obtain rfl:i=M.length:=by omega
   rw [hlast] at hk
   exact absurd rfl hk
 ·rcases Nat.lt_trichotomy i M.length with h|h|h
  ·have:=(hgd i h).len;omega
  ·subst h;rw [hlast];simp
  ·rw [hout i h];simp [endT]
 ·rcases Nat.lt_trichotomy i M.length with h|h|h
  ·exact hgd i h
  ·subst h;rw [hlast] at hk;exact absurd rfl hk
  ·rw [hout i h] at hk;exact absurd rfl hk
def st0:PSt:=⟨0,0,0,0⟩
theorem st0_fit {T:List Tok} (h:Ends T):Fit T st0:=⟨h.pos,by decide,by decide,fun _=>by decide⟩
def parseR (s:List UInt8):Nd×Int×Int:=(parseT (30*(lexP s).1.length+30) s).getD (zN,0,0)
theorem betw_some {s:List UInt8} (h:(lexP s).2.2=0):∃ r,betwP (lexP s).1 (30*(lexP s).1.length+30) 0 st0=some r:=by
 obtain ⟨hT,_,_⟩:=lex_toks h
 refine (suffF hT.ends _).betw 0 st0 (by omega) (st0_fit hT.ends) ?_
 unfold Mz
 split
 ·show 30*(_-0)+20<=_
  omega
 ·omega
set_option maxHeartbeats 2000000 in
theorem parseR_ok {σ:ASt} (hU:U8 σ) (hV:LV σ) (s:List UInt8) (hs:s.length<=1000000000):ACalls Tryz.prog 27 [.str s] σ fun v σ'=>v = .tuple [(parseR s).1.av,.int .i64 (parseR s).2.1,.int .i64 (parseR s).2.2]/\σ'=σ:=by
 have hL:=fun (τ:ASt) (h:U8 τ)=>lex_ok h s hs
 obtain ⟨R,hR⟩:∃ R,parseR s=R:=⟨_,rfl⟩
 rw [hR]
 unfold parseR parseT at hR
 have hbs:=betw_some (s:=s)
 have hto:=lex_toks (s:=s)
 obtain ⟨FU,hFU⟩:∃ FU,30*(lexP s).1.length+30=FU:=⟨_,rfl⟩
 rw [hFU] at hR hbs
 generalize lexP s=X at *
 obtain ⟨T,at',er⟩:=X
 dsimp only at *
 have hz:∀ a e:Int,∀ σ σ':ASt,Fz σ σ' (resV [.agg [.int .i64 0,.int .i64 0,.str [],.int .i64 0,.int .i64 0,.bool false,.bool false,.int .i64 0,.int .i64 0,.bool false,.bool false,.sl .full []],.int .i64 a,.int .i64 e]) (.tuple [.agg (Nd.cs 0 0 [] .zero .zero []),.int .i64 a,.int .i64 e]):=fun a e σ σ'=>
  .tuple (.cons (.agg (.cons (.refl _) (.cons (.refl _) (.cons (.refl _) (.cons (.refl _) (.cons (.refl _) (.cons (.refl _) (.cons (.refl _) (.cons (.refl _) (.cons (.refl _) (.cons (.refl _) (.cons (.refl _) (.cons (.sl _ _) .nil))))))))))))) (.cons (.refl _) (.cons (.refl _) .nil)))
 refine a27 (by simp) ?_
 simp (disch:=first|assumption|omega) only [go_sem]
 refine allocC_by fun d hd=>?_
 have hUd:=hU.set hd (r:=some (.obj zero12))
 have hVd:LV (σ.set d (some (.obj zero12))):=by
  unfold LV at hV ⊢
  rw [ASt.set_ne]
  ·exact hV
  ·rintro e;rw [<-e,hV] at hd;cases hd
 unfold zero12 at hUd hVd
 simp (disch:=first|assumption|omega) only [go_sem,reduceCtorEq,↓reduceIte]
 refine (hL _ hUd).mono ?_
 rintro v σ1 ⟨rfl,rfl⟩
 by_cases he:er=0
 ·rw [if_neg (by simp [he])] at hR
  obtain ⟨hT,hTl,_⟩:=hto he
  obtain ⟨r1,hr1⟩:=hbs he
  have hr1':betwP T FU 0 ⟨0,0,0,0⟩=some r1:=hr1
  rw [hr1'] at hR
  have hw:=(wentF hT.ends FU).betw _ _ _ hr1 (st0_fit hT.ends)
  have hwk:=(walkF hT FU).betw
  obtain ⟨n,s1⟩:=r1
  dsimp only at hR hw
  obtain ⟨s2,hs2⟩:∃ s2,(if (curT T s1).kind≠0 then failP T s1 10 else s1)=s2:=⟨_,rfl⟩
  rw [hs2] at hR
  simp (disch:=first|assumption|omega) only [go_sem,Nat.reduceEqDiff,Nat.reduceAdd,Nat.reduceLeDiff,↓reduceIte,he]
  refine boxC_by rfl fun b hb=>?_
  have hbd:b≠d:=by rintro rfl;rw [ASt.set_same] at hb;cases hb
  have hb0:σ b=none:=by rwa [ASt.set_ne hbd] at hb
  have hbp:(σ.set b (pr T st0)) b=pr T st0:=ASt.set_same _ _ _
  have hVb:LV (σ.set b (pr T st0)):=by
   unfold LV at hV ⊢
   rw [ASt.set_ne]
   ·exact hV
   ·rintro e;rw [<-e,hV] at hb0;cases hb0
  obtain ⟨_,T2,S2⟩:=St2.of (σ:=σ.set b (pr T st0)) (b:=b) (d:=d) (by rw [ASt.set_ne (Ne.symm hbd)];exact hd) (pr_fix hbp).1 (pr_fix hbp).2
  have V2:∀ X Y,LV (T2 X Y):=fun X Y=>S2.fix _ _ _ _ hVb
  have hst:∀ Z:Option Role,(σ.set d Z).set b (some (.obj [.sl .shr (T.map tokAV),.int .i64 0,.int .i64 0,.int .i64 0,.int .i64 0]))=T2 (pr T st0) Z:=fun Z=>by
   have:=S2.ba (pr T st0) Z
   rw [<-this,set_swap hbd,ASt.set_set]
   rfl
  have k1:=S2.s1
  have hcb:=fun Y=>hwk b 0 st0 (n,s1) (by omega) hr1 (st0_fit hT.ends) _ (V2 (pr T st0) Y) (S2.a1 _ _)
  rw [show ((0:Nat):Int)=0 from rfl] at hcb
  dsimp only at hcb
  obtain ⟨o,m,t,x,y,ks⟩:=n
  simp only [Nd.av_cs] at hcb
  generalize hKL:ks.map Nd.av=KL at *
  simp (disch:=first|assumption|omega) only [go_sem,↓reduceIte,hst]
  refine (hcb _).mono ?_
  rintro v σ1 ⟨rfl,rfl⟩
  rw [k1]
  simp (disch:=first|assumption|omega) only [go_sem]
  refine allocC_by fun e he2=>?_
  obtain ⟨hbe,hde,T3,S3⟩:=St3.of S2 (X0 := .obj _) he2
  have ab:=S3.ab
  have k3:=S3.s3
  have k2:=S3.s2
  have k1:=S3.s1
  have w3:=S3.a3
  have w2:=S3.a2
  have w1:=S3.a1
  have hDr:∀ X Y Z,Drop (T3 X Y Z) σ:=fun X Y Z=>by
   have h1:=S3.drop X Y Z
   rw [ASt.set_set] at h1
   exact h1.trans (Drop.set hb0)
  have hcu:=fun Y Z=>pcur_ok (T:=T) hw.fit.i (w1 (pr T s1) Y Z)
  have hfl:=fun τ hh=>pfail_ok (T:=T) (s:=s1) hw.fit.i 10 (σ:=τ) (b:=b) hh
  generalize curT T s1=tk at *
  unfold tokAV at hcu
  obtain ⟨F,hF⟩:∃ F,F=ACode.wp Tryz.prog c27_20:=⟨_,rfl⟩
  have fin:∀ a1:AFr,(a1 2 = .ptr d 0/\a1 8 = .ptr b 0/\a1 9 = .ptr e 0)->F (RetQ [.c 2 (some 12),.t 3,.t 4] fun v σ'=>v = .tuple [R.1.av,.int .i64 R.2.1,.int .i64 R.2.2]/\σ'=σ) a1 (T3 (pr T s2) (some (.obj zero12)) (some (.obj (Nd.cs o m t x y KL)))):=by
   intro a1 hf1
   rw [hF]
   unfold zero12
   have x1:∀ Y Z,T3 (pr T s2) Y Z b=some (.obj [.sl .shr (T.map tokAV),.int .i64 s2.i,.int .i64 s2.deep,.int .i64 s2.err,.int .i64 s2.bad]):=fun Y Z=>w1 _ _ _
   by_cases h2:s2.err=0
   ·rw [if_neg (by simp [h2])] at hR
    have hR':(Nd.mk o m t x y ks,(0:Int),(0:Int))=R:=hR
    subst hR'
    dsimp only
    rw [Nd.av_cs,hKL]
    simp (disch:=first|assumption|omega) only [go_sem,Nat.reduceEqDiff,Nat.reduceAdd,Nat.reduceLeDiff,↓reduceIte,hf1,x1,h2,w3,w2,k2]
    exact retC_by (hDr _ _ _) (.refl _) ⟨rfl,rfl⟩
   ·rw [if_pos h2] at hR
    have hR':(zN,s2.bad,s2.err)=R:=hR
    subst hR'
    dsimp only
    rw [zN_av]
    simp (disch:=first|assumption|omega) only [go_sem,Nat.reduceEqDiff,Nat.reduceAdd,Nat.reduceLeDiff,↓reduceIte,Bool.true_and,hf1,x1,h2,w2,k2]
    exact retC_by (hDr _ _ _) (hz _ _ _ _) ⟨rfl,rfl⟩
  unfold zero12 at fin
  simp (disch:=first|assumption|omega) only [go_sem,Nat.reduceEqDiff,Nat.reduceAdd,Nat.reduceLeDiff,↓reduceIte,ab,k3,w3,←hF]
  refine (hcu _ _).mono ?_
  rintro v σ1 ⟨rfl,rfl⟩
  by_cases hk:tk.kind=0
  ·rw [if_neg (by simp [hk])] at hs2
   subst hs2
   simp (disch:=first|assumption|omega) only [go_sem,↓reduceIte,hk]
   refine fin _ ?_
   simp (disch:=first|assumption|omega) only [go_sem,Nat.reduceEqDiff,↓reduceIte]
  ·rw [if_pos hk] at hs2
   subst hs2
   simp (disch:=first|assumption|omega) only [go_sem,Nat.reduceEqDiff,↓reduceIte,hk]
   refine (hfl _ (w1 _ _ _)).mono ?_
   rintro v σ1 ⟨rfl,rfl⟩
   rw [k1]
   simp (disch:=first|assumption|omega) only [go_sem]
   refine fin _ ?_
   simp (disch:=first|assumption|omega) only [go_sem,Nat.reduceEqDiff,↓reduceIte]
 ·rw [if_pos he] at hR
  have hR':(zN,(at':Int),er)=R:=hR
  subst hR'
  rw [zN_av]
  simp (disch:=first|assumption|omega) only [go_sem,Nat.reduceEqDiff,Nat.reduceAdd,Nat.reduceLeDiff,↓reduceIte,Bool.true_and,he,ASt.set_set]
  exact retC_by (Drop.set hd) (hz _ _ _ _) ⟨rfl,rfl⟩
end Go.A
namespace Go.A
open Go.Proofs
/-! 8: tabular/tabularlaw20.Cell -/
def c8_14:ACode := .seq (.ops [ oe 1 (.box (.t 0)),oe 2 (.alloc [(.int .i64 0),(.int .i64 0),(.str []),(.int .i64 0),(.int .i64 0),(.bool false),(.bool false),(.int .i64 0),(.int .i64 0),(.bool false),(.bool false),(.sl .full []),.nili])]) (.seq (.ops [ oq 7 (.fa 2 (.t 1)),oq 8 (.fa 2 (.t 7)),oq 9 (.ld none (.t 8)),oe 10 (.call 24 [(.t 9),(.v (.int .i64 60))]),oq 11 (.fa 2 (.t 1)),oq 12 (.fa 2 (.t 11)),oz (.store 1 (.t 12) (.t 10))]) (.seq (.ops [ oq 13 (.fa 2 (.t 1)),oq 14 (.ld (some 3) (.t 13)),oe 15 (.call 33 [(.t 14)]),oe 16 (.call 28 [(.t 15)]),oe 3 (.alloc [(.int .i64 0),(.int .i64 0),(.str []),(.int .i64 0),(.int .i64 0),(.bool false),(.bool false),(.int .i64 0),(.int .i64 0),(.bool false),(.bool false),(.sl .full []),.nili]),oz (.store 13 (.t 3) (.t 16))]) (.seq (.ops [ oq 18 (.fa 1 (.t 1)),oq 19 (.ld none (.t 18)),oe 20 (.call 24 [(.t 19),(.v (.int .i64 80))]),oe 21 (.call 27 [(.t 20)]),oq 17 (.mv (.t 21)),oq 22 (.ext 0 (.t 17)),oq 23 (.ext 1 (.t 17)),oq 24 (.ext 2 (.t 17)),oe 4 (.alloc [(.int .i64 0),(.int .i64 0),(.str []),(.int .i64 0),(.int .i64 0),(.bool false),(.bool false),(.int .i64 0),(.int .i64 0),(.bool false),(.bool false),(.sl .full [])]),oz (.store 12 (.t 4) (.t 22)),oq 5 (.mv (.t 23)),oq 6 (.mv (.t 24))]) (.seq (.seq (.ops [ oq 25 (.mv (.t 6)),oq 26 (.bin .eql (.t 25) (.v (.int .i64 0)))]) (.cond (.t 26) (.ops [ oq 27 (.ld (some 12) (.t 4)),oq 28 (.fa 0 (.t 3)),oz (.store 12 (.t 28) (.t 27))]) .skip)) (.seq (.ops [ oq 29 (.ld (some 13) (.t 3)),oz (.store 13 (.t 2) (.t 29))]) .ret)))))
@[go_sem] def c8_14_wp:=wp_of c8_14.eq_1
def c8:AFn:=⟨30,[.c 2 (some 13)],c8_14⟩
theorem c8_ok:compF Tryz.prog Tryz.f8=some c8:=by kernel_rfl
theorem a8 {args:List AV} {σ:ASt} {R:AV->ASt->Prop} (hl:args.length<=30) (h:c8_14.wp Tryz.prog (RetQ [.c 2 (some 13)] R) (init args) σ):ACalls Tryz.prog 8 args σ R:=acalls_of Tryz.func8 c8_ok hl h
/-! 28: tabular/tile.Plain -/
def c28_3:ACode := .seq (.ops [ oe 2 (.alloc [(.int .i64 0),(.int .i64 0),(.str []),(.int .i64 0),(.int .i64 0),(.bool false),(.bool false),(.int .i64 0),(.int .i64 0),(.bool false),(.bool false),(.sl .full []),.nili])]) (.seq (.ops [ oq 3 (.mv (.t 0)),oq 4 (.build [(.int .i64 0),(.int .i64 0),(.str []),(.int .i64 0),(.int .i64 0),(.bool false),(.bool false),(.int .i64 0),(.int .i64 0),(.bool false),(.bool false),(.sl .full []),.nili] [(12,1,(.t 3))]),oz (.store 13 (.t 2) (.t 4))]) .ret)
@[go_sem] def c28_3_wp:=wp_of c28_3.eq_1
def c28:AFn:=⟨5,[.c 2 (some 13)],c28_3⟩
theorem c28_ok:compF Tryz.prog Tryz.f28=some c28:=by kernel_rfl
theorem a28 {args:List AV} {σ:ASt} {R:AV->ASt->Prop} (hl:args.length<=5) (h:c28_3.wp Tryz.prog (RetQ [.c 2 (some 13)] R) (init args) σ):ACalls Tryz.prog 28 args σ R:=acalls_of Tryz.func28 c28_ok hl h
end Go.A
namespace Go.A
open Go.Proofs Go.Lib Go.Vint
theorem ACalls.soft {P:Program} {σ σ2:ASt} {f:FuncId} {args:List AV} {K:AV->ASt->Prop} (hd:SDrop σ σ2) (h:ACalls P f args σ2 K):ACalls P f args σ K:=by
 intro w vs hs hr
 refine (h w vs (hd.sim hs) (hr.mono (hd.le w))).mono ?_
 rintro e w' ⟨u,r,σ',he,hk,hle,hs',hr'⟩
 exact ⟨u,r,σ',he,hk,(hd.le w).trans hle,hs',hr'⟩
theorem lv_add20 {σ:ASt} {b:Nat} {r:Option Role} (h:LV σ) (hb:σ b=none):LV (σ.set b r):=by
 unfold LV at h ⊢
 rw [ASt.set_ne]
 ·exact h
 ·intro e;rw [e,hb] at h;cases h
theorem pv_deep (v:PV):Go.A.deep v.av=v.av:=by cases v<;>simp only [PV.av,deep,deeps]
def zCells (v:AV):List AV := [.int .i64 0,.int .i64 0,.str [],.int .i64 0,.int .i64 0,.bool false,.bool false,.int .i64 0,.int .i64 0,.bool false,.bool false,.sl .full [],v]
theorem zCells_deep (v:AV):deeps (zCells v)=cellCs 0 0 [] .zero .zero [] (Go.A.deep v):=by
 simp only [zCells,deep,deeps]
 rfl
theorem zNd_av (v:PV):TC.av ⟨zNd,some v⟩ = .agg (cellCs 0 0 [] .zero .zero [] v.av):=rfl
theorem tplain_ok (v:PV):Pure Tryz.prog 28 [v.av] (TC.av ⟨zNd,some v⟩):=by
 intro σ
 have hr:TC.av ⟨zNd,some v⟩=Go.A.deep (.agg (zCells v.av)):=by
  rw [zNd_av,deep,zCells_deep,pv_deep]
 rw [hr]
 obtain ⟨t,x,hx⟩:=av_iface v
 rw [hx]
 refine a28 (by simp) ?_
 simp (disch:=first|assumption|omega|(simp only [List.length_append,List.length_cons,List.length_nil];omega)) only [go_sem,reduceCtorEq,Nat.reduceEqDiff,Nat.reduceAdd,Nat.reduceSub,Nat.reduceMul,Nat.reduceLeDiff,Int.reduceLT,Int.reduceLE,Int.reduceEq,↓reduceIte,Int.reduceNeg,Int.reduceAdd,Int.reduceSub,Int.reduceMul,true_imp_iff,forall_const,Nat.mul_one,Int.reduceToNat,Nat.reducePow,Int.reducePow,Bool.true_and,Bool.false_and,Bool.and_false]
 refine allocC_by fun c hc=>?_
 simp (disch:=first|assumption|omega|(simp only [List.length_append,List.length_cons,List.length_nil];omega)) only [go_sem,reduceCtorEq,Nat.reduceEqDiff,Nat.reduceAdd,Nat.reduceSub,Nat.reduceMul,Nat.reduceLeDiff,Int.reduceLT,Int.reduceLE,Int.reduceEq,↓reduceIte,Int.reduceNeg,Int.reduceAdd,Int.reduceSub,Int.reduceMul,true_imp_iff,forall_const,Nat.mul_one,Int.reduceToNat,Nat.reducePow,Int.reducePow,Bool.true_and,Bool.false_and,Bool.and_false]
 exact retC_by (Drop.set hc) (.deep _) ⟨rfl,rfl⟩
def lcT (F:List UInt8):Nd:=if (parseR (F.take 80)).2.2=0 then (parseR (F.take 80)).1 else zNd
def lcC (F:List UInt8) (k n:Int) (S:List UInt8):TC:=⟨lcT F,some (ofP ⟨k,n,S.take 60⟩)⟩
theorem lcell_ok {σ:ASt} (hU:U8 σ) (hV:LV σ) (m:Int) (F:List UInt8) (k n:Int) (S:List UInt8):ACalls Tryz.prog 8 [.agg [.int .i64 m,.str F,.int .i64 k,.int .i64 n,.str S]] σ fun v σ'=>v=(lcC F k n S).av/\σ'=σ:=by
 have hC1:Pure Tryz.prog 24 [.str S,.int .i64 60] (.str (S.take 60)):=lcut_ok S 60
 have hC2:Pure Tryz.prog 24 [.str F,.int .i64 80] (.str (F.take 80)):=lcut_ok F 80
 have hO:=fun (τ:ASt) (h:U8 τ)=>of_ok h ⟨k,n,S.take 60⟩ (by show (S.take 60).length<=_;rw [List.length_take];omega)
 have hP:=tplain_ok (ofP ⟨k,n,S.take 60⟩)
 have hR:=fun (τ:ASt) (h:U8 τ) (h2:LV τ)=>parseR_ok h h2 (F.take 80) (by rw [List.length_take];omega)
 have hx:(lcC F k n S).av=TC.av ⟨if (parseR (F.take 80)).2.2=0 then (parseR (F.take 80)).1 else zNd,some (ofP ⟨k,n,S.take 60⟩)⟩:=rfl
 rw [hx]
 clear hx
 unfold plAV at hO
 dsimp only at hO
 rw [zNd_av] at hP
 generalize ofP ⟨k,n,S.take 60⟩=v at *
 generalize parseR (F.take 80)=R at *
 generalize S.take 60=S6 at *
 generalize F.take 80=F8 at *
 obtain ⟨⟨op,num,s,a,b,ks⟩,pl,e⟩:=R
 dsimp only at hR ⊢
 rw [Nd.av_cs] at hR
 have hz:TC.av ⟨zNd,some v⟩ = .agg (cellCs 0 0 [] .zero .zero [] v.av):=zNd_av v
 have hy:TC.av ⟨.mk op num s a b ks,some v⟩ = .agg (cellCs op num s a b (ks.map Nd.av) v.av):=rfl
 generalize hva:v.av=va at *
 obtain ⟨t0,x0,hvx⟩:=av_iface v
 rw [hva] at hvx
 subst hvx
 generalize ks.map Nd.av=L at *
 unfold cellCs at hP hz hy
 unfold Nd.cs at hR
 refine a8 (by simp) ?_
 simp (disch:=first|assumption|omega|(simp only [List.length_append,List.length_cons,List.length_nil];omega)) only [go_sem,reduceCtorEq,Nat.reduceEqDiff,Nat.reduceAdd,Nat.reduceSub,Nat.reduceMul,Nat.reduceLeDiff,Int.reduceLT,Int.reduceLE,Int.reduceEq,↓reduceIte,Int.reduceNeg,Int.reduceAdd,Int.reduceSub,Int.reduceMul,true_imp_iff,forall_const,Nat.mul_one,Int.reduceToNat,Nat.reducePow,Int.reducePow,Bool.true_and,Bool.false_and,Bool.and_false]
 refine boxC_by rfl fun c1 h1=>?_
 simp (disch:=first|assumption|omega|(simp only [List.length_append,List.length_cons,List.length_nil];omega)) only [go_sem,reduceCtorEq,Nat.reduceEqDiff,Nat.reduceAdd,Nat.reduceSub,Nat.reduceMul,Nat.reduceLeDiff,Int.reduceLT,Int.reduceLE,Int.reduceEq,↓reduceIte,Int.reduceNeg,Int.reduceAdd,Int.reduceSub,Int.reduceMul,true_imp_iff,forall_const,Nat.mul_one,Int.reduceToNat,Nat.reducePow,Int.reducePow,Bool.true_and,Bool.false_and,Bool.and_false]
 refine allocC_by fun c2 h2=>?_
 obtain ⟨n1,n2,h2'⟩:=set_none h2
 simp (disch:=first|assumption|omega|(simp only [List.length_append,List.length_cons,List.length_nil];omega)) only [go_sem,reduceCtorEq,Nat.reduceEqDiff,Nat.reduceAdd,Nat.reduceSub,Nat.reduceMul,Nat.reduceLeDiff,Int.reduceLT,Int.reduceLE,Int.reduceEq,↓reduceIte,Int.reduceNeg,Int.reduceAdd,Int.reduceSub,Int.reduceMul,true_imp_iff,forall_const,Nat.mul_one,Int.reduceToNat,Nat.reducePow,Int.reducePow,Bool.true_and,Bool.false_and,Bool.and_false]
 refine hC1.use ?_
 have U2:=fun r r'=>U8.set (r:=r') (U8.set (r:=r) hU h1) (by rw [ASt.set_ne n1];exact h2')
 have V2:=fun r r'=>lv_add20 (r:=r') (lv_add20 (r:=r) hV h1) (by rw [ASt.set_ne n1];exact h2')
 simp (disch:=first|assumption|omega|(simp only [List.length_append,List.length_cons,List.length_nil];omega)) only [go_sem,reduceCtorEq,Nat.reduceEqDiff,Nat.reduceAdd,Nat.reduceSub,Nat.reduceMul,Nat.reduceLeDiff,Int.reduceLT,Int.reduceLE,Int.reduceEq,↓reduceIte,Int.reduceNeg,Int.reduceAdd,Int.reduceSub,Int.reduceMul,true_imp_iff,forall_const,Nat.mul_one,Int.reduceToNat,Nat.reducePow,Int.reducePow,Bool.true_and,Bool.false_and,Bool.and_false,set_swap,ASt.set_set]
 refine (hO _ (U2 _ _)).mono ?_
 rintro v1 σ2 ⟨rfl,hσ2⟩
 have U3:=U2 (some (.obj [.int .i64 m,.str F,.int .i64 k,.int .i64 n,.str S6])) (some (.obj (zCells .nili)))
 have V3:=V2 (some (.obj [.int .i64 m,.str F,.int .i64 k,.int .i64 n,.str S6])) (some (.obj (zCells .nili)))
 have d3:Drop ((σ.set c1 (some (.obj [.int .i64 m,.str F,.int .i64 k,.int .i64 n,.str S6]))).set c2 (some (.obj (zCells .nili)))) σ:=(Drop.set (by rw [ASt.set_ne n1];exact h2')).trans (Drop.set h1)
 unfold zCells at U3 V3 d3
 rw [<-hσ2] at U3 V3 d3
 have hm1:σ2 c1=some (.obj [.int .i64 m,.str F,.int .i64 k,.int .i64 n,.str S6]):=by rw [hσ2,ASt.set_ne n2,ASt.set_same]
 have hm2:σ2 c2=some (.obj (zCells .nili)):=by rw [hσ2,ASt.set_same];rfl
 clear hσ2
 simp (disch:=first|assumption|omega|(simp only [List.length_append,List.length_cons,List.length_nil];omega)) only [go_sem,reduceCtorEq,Nat.reduceEqDiff,Nat.reduceAdd,Nat.reduceSub,Nat.reduceMul,Nat.reduceLeDiff,Int.reduceLT,Int.reduceLE,Int.reduceEq,↓reduceIte,Int.reduceNeg,Int.reduceAdd,Int.reduceSub,Int.reduceMul,true_imp_iff,forall_const,Nat.mul_one,Int.reduceToNat,Nat.reducePow,Int.reducePow,Bool.true_and,Bool.false_and,Bool.and_false]
 refine hP.use ?_
 simp (disch:=first|assumption|omega|(simp only [List.length_append,List.length_cons,List.length_nil];omega)) only [go_sem,reduceCtorEq,Nat.reduceEqDiff,Nat.reduceAdd,Nat.reduceSub,Nat.reduceMul,Nat.reduceLeDiff,Int.reduceLT,Int.reduceLE,Int.reduceEq,↓reduceIte,Int.reduceNeg,Int.reduceAdd,Int.reduceSub,Int.reduceMul,true_imp_iff,forall_const,Nat.mul_one,Int.reduceToNat,Nat.reducePow,Int.reducePow,Bool.true_and,Bool.false_and,Bool.and_false]
 refine allocC_by fun c3 h3=>?_
 have n31:c1≠c3:=by rintro rfl;rw [hm1] at h3;cases h3
 have n13:=n31.symm
 have n23:c2≠c3:=by rintro rfl;rw [hm2] at h3;cases h3
 have U4:=fun r=>U8.set (r:=r) U3 h3
 have V4:=fun r=>lv_add20 (r:=r) V3 h3
 have d4:=fun r=>(Drop.set (r:=r) h3).trans d3
 simp (disch:=first|assumption|omega|(simp only [List.length_append,List.length_cons,List.length_nil];omega)) only [go_sem,reduceCtorEq,Nat.reduceEqDiff,Nat.reduceAdd,Nat.reduceSub,Nat.reduceMul,Nat.reduceLeDiff,Int.reduceLT,Int.reduceLE,Int.reduceEq,↓reduceIte,Int.reduceNeg,Int.reduceAdd,Int.reduceSub,Int.reduceMul,true_imp_iff,forall_const,Nat.mul_one,Int.reduceToNat,Nat.reducePow,Int.reducePow,Bool.true_and,Bool.false_and,Bool.and_false,hm1,ASt.set_set]
 refine hC2.use ?_
 simp (disch:=first|assumption|omega|(simp only [List.length_append,List.length_cons,List.length_nil];omega)) only [go_sem,reduceCtorEq,Nat.reduceEqDiff,Nat.reduceAdd,Nat.reduceSub,Nat.reduceMul,Nat.reduceLeDiff,Int.reduceLT,Int.reduceLE,Int.reduceEq,↓reduceIte,Int.reduceNeg,Int.reduceAdd,Int.reduceSub,Int.reduceMul,true_imp_iff,forall_const,Nat.mul_one,Int.reduceToNat,Nat.reducePow,Int.reducePow,Bool.true_and,Bool.false_and,Bool.and_false,hm1,ASt.set_set]
 refine (hR _ (U4 _) (V4 _)).mono ?_
 rintro v1 σ3 ⟨rfl,hσ3⟩
 have hm2':σ3 c2=some (.obj (zCells .nili)):=by rw [hσ3,ASt.set_ne n23,hm2]
 unfold zCells at hm2'
 have hm3:=congrFun hσ3 c3
 rw [ASt.set_same] at hm3
 have d5:=d4 (some (.obj (cellCs 0 0 [] .zero .zero [] (.iface t0 x0))))
 unfold cellCs at d5
 rw [<-hσ3] at d5
 have z3:σ c3=none:=(d3 c3).elim (fun e=>by rw [e];exact h3) id
 clear hσ3
 simp (disch:=first|assumption|omega|(simp only [List.length_append,List.length_cons,List.length_nil];omega)) only [go_sem,reduceCtorEq,Nat.reduceEqDiff,Nat.reduceAdd,Nat.reduceSub,Nat.reduceMul,Nat.reduceLeDiff,Int.reduceLT,Int.reduceLE,Int.reduceEq,↓reduceIte,Int.reduceNeg,Int.reduceAdd,Int.reduceSub,Int.reduceMul,true_imp_iff,forall_const,Nat.mul_one,Int.reduceToNat,Nat.reducePow,Int.reducePow,Bool.true_and,Bool.false_and,Bool.and_false]
 refine allocC_by fun c4 h4=>?_
 have n34:c3≠c4:=by rintro rfl;rw [hm3] at h4;cases h4
 have n24:c2≠c4:=by rintro rfl;rw [hm2'] at h4;cases h4
 have n43:=n34.symm
 have z4:σ c4=none:=(d5 c4).elim (fun e=>by rw [e];exact h4) id
 have n42:=n24.symm
 by_cases he:e=0
 ·rw [if_pos he,hy]
  simp (disch:=first|assumption|omega|(simp only [List.length_append,List.length_cons,List.length_nil];omega)) only [go_sem,reduceCtorEq,Nat.reduceEqDiff,Nat.reduceAdd,Nat.reduceSub,Nat.reduceMul,Nat.reduceLeDiff,Int.reduceLT,Int.reduceLE,Int.reduceEq,↓reduceIte,Int.reduceNeg,Int.reduceAdd,Int.reduceSub,Int.reduceMul,true_imp_iff,forall_const,Nat.mul_one,Int.reduceToNat,Nat.reducePow,Int.reducePow,Bool.true_and,Bool.false_and,Bool.and_false,hm3,hm2',he,ASt.set_set]
  exact retC_by (Drop.off (Drop.off (Drop.off d5 z4) z3) h2') (.refl _) ⟨rfl,rfl⟩
 ·rw [if_neg he,hz]
  simp (disch:=first|assumption|omega|(simp only [List.length_append,List.length_cons,List.length_nil];omega)) only [go_sem,reduceCtorEq,Nat.reduceEqDiff,Nat.reduceAdd,Nat.reduceSub,Nat.reduceMul,Nat.reduceLeDiff,Int.reduceLT,Int.reduceLE,Int.reduceEq,↓reduceIte,Int.reduceNeg,Int.reduceAdd,Int.reduceSub,Int.reduceMul,true_imp_iff,forall_const,Nat.mul_one,Int.reduceToNat,Nat.reducePow,Int.reducePow,Bool.true_and,Bool.false_and,Bool.and_false,hm3,hm2',he,ASt.set_set]
  exact retC_by (Drop.off (Drop.off d5 z4) h2') (.refl _) ⟨rfl,rfl⟩
end Go.A
namespace Go.A
open Go.Proofs Go.Lib
theorem columnP_rng (l:List UInt8):0<=(columnP l).1/\(columnP l).1<700:=by
 unfold columnP
 split
 ·split
  ·decide
  ·dsimp only;omega
 ·decide
theorem readQ_good (l:List UInt8) (i:Nat) (col:Int) (ar ac:Bool) (h:0<=col/\col<700):(readQ l i col ar ac).1.good=true:=by
 unfold readQ
 split
 ·rfl
 ·simp only [Ref.good,decide_eq_true_eq];omega
theorem readR_good (l:List UInt8) (i:Nat) (ac:Bool):(readR l i ac).1.good=true:=by
 unfold readR
 split
 ·rfl
 split
 ·exact readQ_good _ _ _ _ _ (columnP_rng _)
 ·exact readQ_good _ _ _ _ _ (columnP_rng _)
theorem parseP_good (l:List UInt8):(parseP l).1.good=true:=by
 unfold parseP
 split
 ·rfl
 ·unfold readP
  split
  ·exact readR_good _ _ _
  ·exact readR_good _ _ _
theorem parseQ_rng {m d:Bool} {w p:List UInt8} {v:Int} (h:parseQ m w p d=some v):v.natAbs<=999999999999999999:=by
 unfold parseQ at h
 split at h
 ·cases h
 ·obtain ⟨n,_,hn⟩:=Option.bind_eq_some_iff.1 h
  unfold madeP at hn
  split at hn
  ·injection hn with hn
   split at hn<;>omega
  ·cases hn
theorem parseD_rng {s:List UInt8} {v:Int} (h:parseD s=some v):v.natAbs<=999999999999999999:=parseQ_rng h
mutual
def Nd.nk:Nd->Prop
 | .mk op _ _ _ _ ks=>((op=5\/op=6)->ks = [])/\Nd.nks ks
def Nd.nks:List Nd->Prop
 | []=>True
 | x::xs=>x.nk/\Nd.nks xs
end
theorem nks_mem:∀ {l:List Nd},Nd.nks l↔∀ x∈l,x.nk
 | []=>by simp [Nd.nks]
 | x::xs=>by rw [Nd.nks,nks_mem (l:=xs)];simp
def Nd.gd (n:Nd):Prop:=n.ok/\n.nk
theorem gd_mk {op n:Int} {s:List UInt8} {a b:Ref} {ks:List Nd} (h:nodeOk op n s a b ks.length) (h2:(op=5\/op=6)->ks = []) (hk:∀ x∈ks,x.gd):(Nd.mk op n s a b ks).gd:=by
 constructor
 ·rw [Nd.ok]
  exact ⟨h,Nd.oks_mem.2 fun x hx=>(hk x hx).1⟩
 ·rw [Nd.nk]
  exact ⟨h2,nks_mem.2 fun x hx=>(hk x hx).2⟩
theorem no_kids {x:Nd}:∀ y∈([]:List Nd),y.gd:=fun y hy=>by cases hy
theorem miss_gd:missN.gd:=gd_mk ⟨by decide,fun h=>by omega,fun h=>by omega,fun h=>by omega,fun h=>by omega,fun h=>by omega,fun h=>by omega,fun h=>by omega,fun h=>by omega,by decide⟩ (fun h=>by omega) (no_kids (x:=missN))
theorem sign_rng {x:List UInt8} {lvl:Nat} (h:x∈levelsL.getD lvl []):0<=idxP signL x/\idxP signL x<=11:=by
 have:∀ y∈levelsL.flatten,0<=idxP signL y/\idxP signL y<=11:=by decide
 refine this x (List.mem_flatten.2 ?_)
 rw [List.getD_eq_getElem?_getD] at h
 cases hl:levelsL[lvl]? with
 | none=>rw [hl] at h;simp at h
 | some l=>rw [hl] at h;exact ⟨l,List.mem_of_getElem? hl,h⟩
theorem fault_rng {x:List UInt8} (h:x∈errTexts):0<=idxP errL x/\idxP errL x<=6:=by
 have:∀ y∈errTexts,0<=idxP errL y/\idxP errL y<=6:=by decide
 exact this x h
theorem sizes_snoc (l:List Nd) (x:Nd):Nd.sizes (l ++ [x])=Nd.sizes l+x.size:=by
 induction l with
 | nil=>simp [Nd.sizes]
 | cons y l ih=>rw [List.cons_append,Nd.sizes,ih,Nd.sizes];omega
section
variable {T:List Tok}
theorem Went.e0 {s s':PSt} (h:Went T s s') (h0:s'.err=0):s.err=0:=by
 by_cases he:s.err=0
 ·exact he
 ·have:=(h.err he).1;omega
theorem enter_i {s:PSt} (h:(stepP1 (enterP T s)).err=0):(stepP1 (enterP T s)).i=s.i+1:=by
 have hi:(enterP T s).i=s.i:=by
  unfold enterP failP
  split
  ·split<;>rfl
  ·rfl
 unfold stepP1 at h ⊢
 split
 ·show (enterP T s).i+1=_
  omega
 ·rename_i hne
  rw [if_neg hne] at h
  exact absurd h hne
theorem must_i {s:PSt} {x:List UInt8} (h:(mustP T s x).err=0):s.err=0/\(mustP T s x).i=s.i+1:=by
 unfold mustP at h ⊢
 split
 ·rename_i hx
  rw [if_pos hx] at h
  exact ⟨h,rfl⟩
 ·rename_i hx
  rw [if_neg hx] at h
  unfold failP at h
  split at h
  ·cases h
  ·rename_i hne;exact absurd h hne
theorem fail_err {s:PSt} {e:Int} (he:e≠0) (h:(failP T s e).err=0):False:=by
 unfold failP at h
 split at h
 ·exact he h
 ·rename_i hne;exact hne h
structure GoodF (T:List Tok) (f:Nat):Prop where
 betw:∀ lvl s r,betwP T f lvl s=some r->Fit T s->r.2.err=0->r.1.gd/\r.1.size+2*s.i<=2*r.2.i
 loop:∀ lvl n s r,loopP T f lvl n s=some r->Fit T s->r.2.err=0->n.gd->r.1.gd/\r.1.size+2*s.i<=n.size+2*r.2.i
 signed:∀ s r,signedP T f s=some r->Fit T s->r.2.err=0->r.1.gd/\r.1.size+2*s.i<=2*r.2.i
 hundred:∀ s r,hundredP T f s=some r->Fit T s->r.2.err=0->r.1.gd/\r.1.size+2*s.i<=2*r.2.i
 hloop:∀ n s r,hloopP T f n s=some r->Fit T s->r.2.err=0->n.gd->r.1.gd/\r.1.size+2*s.i<=n.size+2*r.2.i
 prim:∀ s r,primP T f s=some r->Fit T s->r.2.err=0->r.1.gd/\r.1.size+2*s.i<=2*r.2.i
 name:∀ s r,nameP T f s=some r->Fit T s->(curT T s).kind=3->r.2.err=0->r.1.gd/\r.1.size+2*s.i<=2*r.2.i
 args:∀ s r,argsP T f s=some r->Fit T s->r.2.err=0->(∀ x∈r.1,x.gd)/\Nd.sizes r.1+2*s.i<=2*r.2.i
 aloop:∀ l s r,aloopP T f l s=some r->Fit T s->r.2.err=0->(∀ x∈l,x.gd)->(∀ x∈r.1,x.gd)/\Nd.sizes r.1+2*s.i<=Nd.sizes l+2*r.2.i
theorem leaf_gd {op n:Int} {s:List UInt8} {a b:Ref} (h:nodeOk op n s a b 0):(Nd.mk op n s a b []).gd:=gd_mk h (fun _=>rfl) (no_kids (x:=missN))
theorem leaf_size (op n:Int) (s:List UInt8) (a b:Ref):(Nd.mk op n s a b []).size=1:=by rw [Nd.size,Nd.sizes]
theorem one_size (op n:Int) (s:List UInt8) (a b:Ref) (x:Nd):(Nd.mk op n s a b [x]).size=1+x.size:=by rw [Nd.size,Nd.sizes,Nd.sizes];omega
theorem two_size (op n:Int) (s:List UInt8) (a b:Ref) (x y:Nd):(Nd.mk op n s a b [x,y]).size=1+x.size+y.size:=by rw [Nd.size,Nd.sizes,Nd.sizes,Nd.sizes];omega
theorem one_gd {op n:Int} {s:List UInt8} {a b:Ref} {x:Nd} (h:nodeOk op n s a b 1) (h5:op≠5/\op≠6) (hx:x.gd):(Nd.mk op n s a b [x]).gd:=
 gd_mk h (fun h=>by omega) fun y hy=>by simp at hy;subst hy;exact hx
theorem one_ok {op:Int} (h:op=7\/op=8\/op=9):nodeOk op 0 [] .zero .zero 1:=
 ⟨by omega,fun h=>by omega,fun h=>by omega,fun h=>by omega,fun h=>by omega,fun h=>by omega,fun h=>by omega,fun h=>by omega,fun h=>by omega,by decide⟩
theorem goodF (hT:Ends T) (hG:∀ i,(T.getD i endT).kind≠0->TokGd (T.getD i endT)) (hL:T.length<=100000):∀ f,GoodF T f
 | 0=>by
   constructor
   all_goals intros
   all_goals first
    | (rename_i h _ _;simp only [betwP,signedP,hundredP,primP,argsP,reduceCtorEq] at h)
    | (rename_i h _ _ _;simp only [loopP,hloopP,nameP,aloopP,reduceCtorEq] at h)
 | f+1=>by
   have ih:=goodF hT hG hL f
   have W:=wentF hT f
   constructor
   ·intro lvl s r h hf h0
    rw [betwP] at h
    split at h
    ·exact ih.signed s r h hf h0
    ·split at h
     ·cases h
     ·rename_i r1 h1
      have w1:=W.betw _ _ _ h1 hf
      have w2:=W.loop _ _ _ _ h w1.fit
      obtain ⟨g1,g2⟩:=ih.betw _ _ _ h1 hf (w2.e0 h0)
      obtain ⟨g3,g4⟩:=ih.loop _ _ _ _ h w1.fit h0 g1
      exact ⟨g3,by omega⟩
   ·intro lvl n s r h hf h0 hn
    rw [loopP] at h
    split at h
    ·rename_i hk
     split at h
     ·cases h
     ·rename_i r1 h1
      have w0:=Went.next hT hf (sgn_kind hk)
      have w1:=W.betw _ _ _ h1 w0.fit
      have w2:=W.loop _ _ _ _ h w1.fit
      obtain ⟨g1,g2⟩:=ih.betw _ _ _ h1 w0.fit (w2.e0 h0)
      have hs:(curT T s).text∈levelsL.getD lvl []:=by
       unfold sgn at hk
       simp only [Bool.and_eq_true,decide_eq_true_eq] at hk
       exact hk.2
      have hr:=sign_rng hs
      have hg:(Nd.mk (10+idxP signL (curT T s).text) 0 [] .zero .zero [n,r1.1]).gd:=by
       refine gd_mk ⟨by omega,fun h=>by omega,fun h=>by omega,fun h=>by omega,fun h=>by omega,fun h=>by omega,fun h=>by omega,fun h=>by omega,fun h=>by simp,by simp⟩ (fun h=>by omega) fun y hy=>?_
       simp only [List.mem_cons,List.not_mem_nil,or_false] at hy
       rcases hy with rfl|rfl
       ·exact hn
       ·exact g1
      obtain ⟨g3,g4⟩:=ih.loop _ _ _ _ h w1.fit h0 hg
      rw [two_size] at g4
      have:s.next.i=s.i+1:=rfl
      exact ⟨g3,by omega⟩
    ·injection h with h;subst h;exact ⟨hn,by dsimp only;omega⟩
   ·intro s r h hf h0
    rw [signedP] at h
    split at h
    ·rename_i hk
     split at h
     ·cases h
     ·rename_i r1 h1
      injection h with h;subst h
      obtain ⟨e1,e2,e3⟩:=enter_fit hT hf (isOp_kind hk)
      have w1:=W.signed _ _ h1 e1
      have e4:=enter_i (w1.e0 h0)
      obtain ⟨g1,g2⟩:=ih.signed _ _ h1 e1 h0
      dsimp only
      rw [one_size]
      exact ⟨one_gd (one_ok (by omega)) (by omega) g1,by show _<=2*r1.2.i;omega⟩
    split at h
    ·rename_i hk
     split at h
     ·cases h
     ·rename_i r1 h1
      injection h with h;subst h
      obtain ⟨e1,e2,e3⟩:=enter_fit hT hf (isOp_kind hk)
      have w1:=W.signed _ _ h1 e1
      have e4:=enter_i (w1.e0 h0)
      obtain ⟨g1,g2⟩:=ih.signed _ _ h1 e1 h0
      dsimp only
      rw [one_size]
      exact ⟨one_gd (one_ok (by omega)) (by omega) g1,by show _<=2*r1.2.i;omega⟩
    ·exact ih.hundred _ _ h hf h0
   ·intro s r h hf h0
    rw [hundredP] at h
    split at h
    ·cases h
    ·rename_i r1 h1
     have w1:=W.prim _ _ h1 hf
     have w2:=W.hloop _ _ _ h w1.fit
     obtain ⟨g1,g2⟩:=ih.prim _ _ h1 hf (w2.e0 h0)
     obtain ⟨g3,g4⟩:=ih.hloop _ _ _ h w1.fit h0 g1
     exact ⟨g3,by omega⟩
   ·intro n s r h hf h0 hn
    rw [hloopP] at h
    split at h
    ·rename_i hk
     have w0:=Went.next hT hf (isOp_kind hk)
     obtain ⟨g3,g4⟩:=ih.hloop _ _ _ h w0.fit h0 (one_gd (one_ok (by omega)) (by omega) hn)
     rw [one_size] at g4
     have:s.next.i=s.i+1:=rfl
     exact ⟨g3,by omega⟩
    ·injection h with h;subst h;exact ⟨hn,by dsimp only;omega⟩
   ·intro s r h hf h0
    have hni:s.next.i=s.i+1:=rfl
    have hgd:(curT T s).kind≠0->TokGd (curT T s):=fun hk=>by
     have he:=cur_err hk
     rw [cur_at he] at hk ⊢
     exact hG _ hk
    rw [primP] at h
    split at h
    ·rename_i hk
     split at h
     ·injection h with h;subst h;exact absurd h0 fun h=>fail_err (by decide) h
     ·rename_i v hv
      injection h with h;subst h
      refine ⟨leaf_gd ⟨by decide,fun _=>parseD_rng hv,fun h=>by omega,fun h=>by omega,fun h=>by omega,fun h=>by omega,fun h=>by omega,fun h=>by omega,fun h=>by omega,by decide⟩,?_⟩
      rw [leaf_size];dsimp only;omega
    split at h
    ·rename_i hk
     injection h with h;subst h
     have:=(hgd (by omega)).len
     refine ⟨leaf_gd ⟨by decide,fun h=>by omega,fun _=>by omega,fun h=>by omega,fun h=>by omega,fun h=>by omega,fun h=>by omega,fun h=>by omega,fun h=>by omega,by decide⟩,?_⟩
     rw [leaf_size];dsimp only;omega
    split at h
    ·rename_i hk
     injection h with h;subst h
     have hr:=fault_rng ((hgd (by omega)).err hk)
     have hq:((idxP errL (curT T s).text+1)*10000).tdiv 10000=idxP errL (curT T s).text+1:=Int.mul_tdiv_cancel _ (by decide)
     refine ⟨leaf_gd ⟨by decide,fun h=>by omega,fun h=>by omega,fun h=>by rw [hq];omega,fun h=>by omega,fun h=>by omega,fun h=>by omega,fun h=>by omega,fun h=>by omega,by decide⟩,?_⟩
     rw [leaf_size];dsimp only;omega
    split at h
    ·rename_i hk
     injection h with h;subst h
     unfold areaP at h0 ⊢
     split at h0
     ·rename_i ho
      rw [if_pos ho]
      refine ⟨leaf_gd ⟨by decide,fun h=>by omega,fun h=>by omega,fun h=>by omega,fun h=>by omega,fun _=>parseP_good _,fun h=>by omega,fun h=>by omega,fun h=>by omega,by decide⟩,?_⟩
      rw [leaf_size];dsimp only;omega
     ·rename_i ho
      rw [if_neg ho]
      split at h0
      ·exact absurd h0 fun h=>fail_err (by decide) h
      ·rename_i hk2
       rw [if_neg hk2]
       refine ⟨leaf_gd ⟨by decide,fun h=>by omega,fun h=>by omega,fun h=>by omega,fun h=>by omega,fun _=>parseP_good _,fun _=>parseP_good _,fun h=>by omega,fun h=>by omega,by decide⟩,?_⟩
       rw [leaf_size]
       have:s.next.next.next.i=s.i+3:=rfl
       dsimp only;omega
    split at h
    ·rename_i hk
     exact ih.name _ _ h hf hk h0
    split at h
    ·rename_i hk
     split at h
     ·cases h
     ·rename_i r1 h1
      injection h with h;subst h
      obtain ⟨e1,e2,e3⟩:=enter_fit hT hf (isOp_kind hk)
      have w1:=W.betw _ _ _ h1 e1
      obtain ⟨m1,m2⟩:=must_i (T:=T) (s:=r1.2) (x := [41]) h0
      have e4:=enter_i (w1.e0 m1)
      obtain ⟨g1,g2⟩:=ih.betw _ _ _ h1 e1 m1
      exact ⟨g1,by show _<=2*(mustP T r1.2 [41]).i;dsimp only;omega⟩
    ·injection h with h;subst h;exact absurd h0 fun h=>fail_err (by decide) h
   ·intro s r h hf hk3 h0
    have hni:s.next.i=s.i+1:=rfl
    have he0:s.err=0:=cur_err (T:=T) (by omega)
    have hn:=hf.next hT (by omega)
    have hgd:TokGd (curT T s):=by
     have hk:(curT T s).kind≠0:=by omega
     rw [cur_at he0] at hk ⊢
     exact hG _ hk
    rw [nameP] at h
    split at h
    ·rename_i hk
     obtain ⟨e1,e2,e3⟩:=enter_err hT hf he0
     split at h
     ·rename_i he
      injection h with h;subst h
      exact absurd h0 he
     ·rename_i he
      split at h
      ·cases h
      ·rename_i r1 h1
       injection h with h;subst h
       obtain ⟨g1,g2,g3,_⟩:=enter2 hT hf (by omega) (by simpa using he)
       have hl:=hT.more (s.i+1) hn.1.i (by omega)
       have g4:Fit T (enterP T s).next.next:=⟨by show (enterP T s).i+1+1<_;omega,g1.d0,g1.d1,g1.d2⟩
       have w1:=W.args _ _ h1 g4
       obtain ⟨k1,k2⟩:=ih.args _ _ h1 g4 h0
       have hi2:(enterP T s).next.next.i=(enterP T s).i+2:=rfl
       have hsl:=sizes_len r1.1
       have hlt:=w1.fit.i
       refine ⟨gd_mk ⟨by decide,fun h=>by omega,fun h=>by omega,fun h=>by omega,fun _=>hgd.nam hk3,fun h=>by omega,fun h=>by omega,fun h=>by omega,fun h=>by omega,by omega⟩ (fun h=>by omega) k1,?_⟩
       dsimp only
       rw [Nd.size]
       show _<=2*r1.2.i
       omega
    split at h
    ·injection h with h;subst h
     refine ⟨leaf_gd ⟨by decide,fun h=>by omega,fun h=>by omega,fun h=>by omega,fun h=>by omega,fun h=>by omega,fun h=>by omega,fun h=>by omega,fun h=>by omega,by decide⟩,?_⟩
     rw [leaf_size];dsimp only;omega
    split at h
    ·injection h with h;subst h
     refine ⟨leaf_gd ⟨by decide,fun h=>by omega,fun h=>by omega,fun h=>by omega,fun h=>by omega,fun h=>by omega,fun h=>by omega,fun h=>by omega,fun h=>by omega,by decide⟩,?_⟩
     rw [leaf_size];dsimp only;omega
    ·injection h with h;subst h;exact absurd h0 fun h=>fail_err (by decide) h
   ·intro s r h hf h0
    rw [argsP] at h
    split at h
    ·rename_i hk
     injection h with h;subst h
     refine ⟨no_kids (x:=missN),?_⟩
     have:s.next.i=s.i+1:=rfl
     rw [Nd.sizes];dsimp only;omega
    ·obtain ⟨g1,g2⟩:=ih.aloop _ _ _ h hf h0 (no_kids (x:=missN))
     rw [Nd.sizes] at g2
     exact ⟨g1,by omega⟩
   ·intro l s r h hf h0 hl
    rw [aloopP] at h
    split at h
    ·rename_i he
     injection h with h;subst h;exact absurd h0 he
    ·rename_i he
     split at h
     ·cases h
     ·rename_i r1 h1
      have w1:Went T s r1.2:=by
       split at h1
       ·injection h1 with h1;subst h1;exact Went.refl hf
       ·exact W.betw _ _ _ h1 hf
      have key:r1.2.err=0->r1.1.gd/\r1.1.size+2*s.i<=1+2*r1.2.i:=fun k0=>by
       split at h1
       ·injection h1 with h1;subst h1
        refine ⟨miss_gd,?_⟩
        show missN.size+_<=_
        unfold missN
        rw [leaf_size]
        dsimp only
        omega
       ·obtain ⟨k1,k2⟩:=ih.betw _ _ _ h1 hf k0
        exact ⟨k1,by omega⟩
      have hsnoc:=sizes_snoc l r1.1
      have hmem:r1.1.gd->∀ x∈l ++ [r1.1],x.gd:=fun k x hx=>by
       rcases List.mem_append.1 hx with hx|hx
       ·exact hl x hx
       ·simp at hx;subst hx;exact k
      split at h
      ·rename_i hk
       have w2:=Went.next hT w1.fit (isOp_kind hk)
       have w3:=W.aloop _ _ _ h w2.fit
       obtain ⟨k1,k2⟩:=key (w2.e0 (w3.e0 h0))
       obtain ⟨g1,g2⟩:=ih.aloop _ _ _ h w2.fit h0 (hmem k1)
       have:r1.2.next.i=r1.2.i+1:=rfl
       exact ⟨g1,by omega⟩
      ·injection h with h;subst h
       obtain ⟨m1,m2⟩:=must_i (T:=T) (s:=r1.2) (x := [41]) h0
       obtain ⟨k1,k2⟩:=key m1
       exact ⟨hmem k1,by dsimp only;omega⟩
end
theorem parseR_gd {s:List UInt8} (h:(parseR s).2.2=0):(parseR s).1.gd/\(parseR s).1.size<=5000:=by
 unfold parseR parseT at h ⊢
 by_cases h1:(lexP s).2.2=0
 ·obtain ⟨hT,hL,hG⟩:=lex_toks h1
  obtain ⟨r,hr⟩:=betw_some h1
  have hr':=hr
  unfold st0 at hr
  rw [if_neg (by simp [h1]),hr] at h ⊢
  dsimp only at h ⊢
  have W:=(wentF hT.ends _).betw _ _ _ hr' (st0_fit hT.ends)
  obtain ⟨q,hq⟩:∃ q,(if (curT (lexP s).1 r.2).kind≠0 then failP (lexP s).1 r.2 10 else r.2)=q:=⟨_,rfl⟩
  rw [hq] at h ⊢
  by_cases he:q.err≠0
  ·rw [if_pos he] at h
   exact absurd h he
  ·rw [if_neg he]
   have h0:r.2.err=0:=by
    split at hq
    ·subst hq
     exact absurd (by simpa using he) fun h=>fail_err (T:=(lexP s).1) (s:=r.2) (e:=10) (by decide) h
    ·subst hq
     simpa using he
   obtain ⟨g1,g2⟩:=(goodF hT.ends hG (by omega) _).betw _ _ _ hr' (st0_fit hT.ends) h0
   have:=W.fit.i
   refine ⟨g1,?_⟩
   show r.1.size<=_
   omega
 ·rw [if_pos (by simpa using h1)] at h
  exact absurd h h1
end Go.A
namespace Go.A
open Go.Proofs Go.Lib
theorem decode_whole {r:List UInt8} {c w:Nat} (hr:r ≠ []) (hd:decodeL r=(c,w)) (hv:(c,w)≠(65533,1)) (t:List UInt8):decodeL (r.take w++t)=(c,w):=by
 have hpos:=List.length_pos_iff.2 hr
 rw [decodeL_N] at hd ⊢
 have k0:=(r.getD 0 0).toNat_lt
 have k1:=(r.getD 1 0).toNat_lt
 rcases decodeN_shape r.length (r.getD 0 0).toNat (r.getD 1 0).toNat (r.getD 2 0).toNat (r.getD 3 0).toNat with ⟨c1,e⟩|⟨c1,c2,c3,cv,e⟩|⟨c1,c2,c3,c4,cv,cs,e⟩|⟨c1,c2,c3,c4,c5,cv,cw,e⟩|e
 ·rw [e] at hd
  injection hd with h1 h2
  subst h1 h2
  rw [takeA r hpos]
  generalize r.getD 0 0=b0 at *
  have e0:(([b0]++t).getD 0 0)=b0:=rfl
  rw [e0]
  unfold decodeN
  rw [if_pos c1]
 ·rw [e] at hd
  injection hd with h1 h2
  subst h1 h2
  rw [takeB r c2]
  generalize r.getD 0 0=b0 at *
  generalize r.getD 1 0=b1 at *
  have e0:(([b0,b1]++t).getD 0 0)=b0:=rfl
  have e1:(([b0,b1]++t).getD 1 0)=b1:=rfl
  have el:1<([b0,b1]++t).length:=by simp
  rw [e0,e1]
  unfold decodeN
  rw [if_neg (by omega),if_pos ⟨c1,el,c3⟩,if_pos (by omega)]
 ·rw [e] at hd
  injection hd with h1 h2
  subst h1 h2
  rw [takeC r c2]
  generalize r.getD 0 0=b0 at *
  generalize r.getD 1 0=b1 at *
  generalize r.getD 2 0=b2 at *
  have e0:(([b0,b1,b2]++t).getD 0 0)=b0:=rfl
  have e1:(([b0,b1,b2]++t).getD 1 0)=b1:=rfl
  have e2:(([b0,b1,b2]++t).getD 2 0)=b2:=rfl
  have el:2<([b0,b1,b2]++t).length:=by simp
  rw [e0,e1,e2]
  unfold decodeN
  rw [if_neg (by omega),if_neg (by omega),if_pos ⟨c1,⟨by omega,c3⟩,el,c4⟩,if_pos (by omega)]
 ·rw [e] at hd
  injection hd with h1 h2
  subst h1 h2
  rw [takeD r c2]
  generalize r.getD 0 0=b0 at *
  generalize r.getD 1 0=b1 at *
  generalize r.getD 2 0=b2 at *
  generalize r.getD 3 0=b3 at *
  have e0:(([b0,b1,b2,b3]++t).getD 0 0)=b0:=rfl
  have e1:(([b0,b1,b2,b3]++t).getD 1 0)=b1:=rfl
  have e2:(([b0,b1,b2,b3]++t).getD 2 0)=b2:=rfl
  have e3:(([b0,b1,b2,b3]++t).getD 3 0)=b3:=rfl
  have el:3<([b0,b1,b2,b3]++t).length:=by simp
  rw [e0,e1,e2,e3]
  unfold decodeN
  rw [if_neg (by omega),if_neg (by omega),if_neg (by omega),if_pos ⟨c1,⟨by omega,c3⟩,⟨by omega,c4⟩,el,c5⟩,if_pos (by omega)]
 ·rw [e] at hd
  exact absurd hd.symm hv
end Go.A
namespace Go.A
open Go.Proofs Go.Lib
theorem sgF_fuel:∀ (k k':Nat) (r:List UInt8),r.length<k->r.length<k'->sgF k r=sgF k' r
 | 0,_,r,h,_=>by omega
 | _+1,0,r,_,h=>by omega
 | k+1,k'+1,r,h,h'=>by
   unfold sgF
   by_cases hr:r = []
   ·rw [if_pos hr,if_pos hr]
   have hpos:=List.length_pos_iff.2 hr
   have hw:=decodeL_width r
   rw [if_neg hr,if_neg hr,sgF_fuel k k' _ (by rw [List.length_drop];omega) (by rw [List.length_drop];omega)]
def sgP (r:List UInt8):Option Nat:=sgF (r.length+1) r
theorem sgP_nil:sgP []=some 0:=rfl
theorem sgP_step {r:List UInt8} (hr:r ≠ []):sgP r=if decodeL r=(65533,1) then none else (sgP (r.drop (decodeL r).2)).map (· + 1):=by
 have hpos:=List.length_pos_iff.2 hr
 have hw:=decodeL_width r
 conv=>lhs;unfold sgP sgF
 unfold sgP
 rw [if_neg hr,sgF_fuel r.length ((r.drop (decodeL r).2).length+1) _ (by rw [List.length_drop];omega) (by omega)]
def cnt:Nat->List UInt8->Nat
 | 0,_=>0
 | k+1,r=>if r = [] then 0 else 1+cnt k (r.drop (decodeL r).2)
theorem runeCount_cnt (l:List UInt8):∀ (k pos:Nat),runeCountFrom ⟨⟨l⟩⟩ k pos=cnt k (l.drop pos)
 | 0,_=>rfl
 | k+1,pos=>by
   unfold runeCountFrom cnt
   have e:(⟨⟨l⟩⟩:ByteArray).size=l.length:=rfl
   rw [e]
   by_cases h:pos<l.length
   ·have hne:l.drop pos ≠ []:=by
     intro h2
     have:=congrArg List.length h2
     simp at this
     omega
    have hd:=decodeL_drop ⟨⟨l⟩⟩ pos
    have hd:decodeL (l.drop pos)=Utf8.decode ⟨⟨l⟩⟩ pos:=hd
    rw [if_pos h,if_neg hne,runeCount_cnt l k,hd,List.drop_drop]
   ·rw [if_neg h,if_pos (List.drop_eq_nil_of_le (by omega))]
theorem cnt_fuel:∀ (k k':Nat) (r:List UInt8),r.length<=k->r.length<=k'->cnt k r=cnt k' r
 | 0,k',r,h,_=>by
   have:r = []:=List.eq_nil_of_length_eq_zero (by omega)
   subst this
   cases k'<;>simp [cnt]
 | k+1,0,r,_,h=>by
   have:r = []:=List.eq_nil_of_length_eq_zero (by omega)
   subst this
   simp [cnt]
 | k+1,k'+1,r,h,h'=>by
   unfold cnt
   by_cases hr:r = []
   ·rw [if_pos hr,if_pos hr]
   have hpos:=List.length_pos_iff.2 hr
   have hw:=decodeL_width r
   rw [if_neg hr,if_neg hr,cnt_fuel k k' _ (by rw [List.length_drop];omega) (by rw [List.length_drop];omega)]
theorem signsN_step {r:List UInt8} (hr:r ≠ []):signsN r=1+signsN (r.drop (decodeL r).2):=by
 have hpos:=List.length_pos_iff.2 hr
 have hw:=decodeL_width r
 unfold signsN runeCount
 rw [runeCount_cnt,runeCount_cnt,List.drop_zero,List.drop_zero]
 have e1:(⟨⟨r⟩⟩:ByteArray).size=r.length:=rfl
 have e2:(⟨⟨r.drop (decodeL r).2⟩⟩:ByteArray).size=(r.drop (decodeL r).2).length:=rfl
 rw [e1,e2]
 obtain ⟨k,hk⟩:∃ k,r.length=k+1:=⟨r.length-1,by omega⟩
 rw [hk,cnt,if_neg hr]
 rw [cnt_fuel k _ _ (by rw [List.length_drop];omega) (Nat.le_refl _)]
inductive Sg:List UInt8->Nat->Prop
 | nil:Sg [] 0
 | cons {y z:List UInt8} {c n:Nat}:y ≠ []->(∀ t,decodeL (y++t)=(c,y.length))->(c,y.length)≠(65533,1)->Sg z n->Sg (y++z) (n+1)
theorem Sg.app {x:List UInt8} {n:Nat} (h:Sg x n) (t:List UInt8):sgP (x++t)=(sgP t).map (· + n)/\signsN (x++t)=n+signsN t:=by
 induction h with
 | nil=>simp
 | cons h1 h2 h3 _ ih=>
   rename_i y z c n _
   obtain ⟨i1,i2⟩:=ih
   have hne:(y++z)++t ≠ []:=by simp [h1]
   have hd:decodeL ((y++z)++t)=(c,y.length):=by rw [List.append_assoc];exact h2 _
   have hdr:((y++z)++t).drop y.length=z++t:=by rw [List.append_assoc,List.drop_left]
   rw [sgP_step hne,hd,if_neg h3,hdr,i1,signsN_step hne,hd,hdr,i2]
   refine ⟨?_,by omega⟩
   cases sgP t<;>simp [Nat.add_assoc]
theorem Sg.join {x z:List UInt8} {n m:Nat} (h:Sg x n) (k:Sg z m):Sg (x++z) (n+m):=by
 induction h with
 | nil=>simpa using k
 | cons h1 h2 h3 _ ih=>
   rw [List.append_assoc,Nat.add_right_comm]
   exact .cons h1 h2 h3 ih
theorem Sg.ascii:∀ x:List UInt8,(∀ c∈x,c.toNat<128)->Sg x x.length
 | [],_ => .nil
 | c::x,h=>by
   have hc:=h c (by simp)
   exact .cons (y := [c]) (by simp) (fun t=>dec_one c t hc) (by rw [ne_eq,Prod.mk.injEq];omega) (Sg.ascii x fun d hd=>h d (by simp [hd]))
theorem Sg.one {r:List UInt8} (hr:r ≠ []) (hv:decodeL r≠(65533,1)):Sg (r.take (decodeL r).2) 1:=by
 have hle:=decodeL_le r hr
 have hw:=decodeL_width r
 have hl:(r.take (decodeL r).2).length=(decodeL r).2:=List.length_take_of_le hle
 have:=Sg.cons (y:=r.take (decodeL r).2) (z := []) (c:=(decodeL r).1) (n:=0) (by
  intro h
  rw [h] at hl
  simp at hl
  omega) (fun t=>by rw [hl];exact decode_whole hr rfl hv t) (by rw [hl];exact hv) .nil
 simpa using this
theorem runL_all2 (p:UInt8->Bool):∀ l:List UInt8,∀ c∈l.take (runL p l),p c=true
 | [],c,h=>by simp [runL] at h
 | x::l,c,h=>by
   unfold runL at h
   split at h
   ·rename_i hx
    rw [List.take_succ_cons,List.mem_cons] at h
    rcases h with rfl|h
    ·exact hx
    ·exact runL_all2 p l c h
   ·simp at h
end Go.A
namespace Go.A
open Go.Proofs Go.Lib
/-! Single steps. -/
/-! Words. -/
structure NameOk (w:List UInt8):Prop where
 word:∀ c∈w,wordB c=true
 name:nameB w=true
 num:numB w=false
 ref:refB w=false
 great:greatP w=w
/-! Numbers. -/
/-! References. -/
/-! Errors. -/
/-! Texts between quotes. -/
end Go.A
namespace Go.A
open Go.Proofs Go.Lib
inductive Nf:Nd->Prop
 | num {n:Int}:0<=n->n<=999999999999999999->Nf (.mk 1 n [] .zero .zero [])
 | text {s:List UInt8}:sgP s≠none->s.length<=8100->Nf (.mk 2 0 s .zero .zero [])
 | truth {b:Int}:b=0\/b=1->Nf (.mk 3 b [] .zero .zero [])
 | fail {k:Nat}:k<7->Nf (.mk 4 (((k:Int)+1)*10000) [] .zero .zero [])
 | cell {r:Ref}:r.good=true->Nf (.mk 5 0 [] r .zero [])
 | area {r q:Ref}:r.good=true->q.good=true->Nf (.mk 6 0 [] r q [])
 | sign {op:Int} {x:Nd}:op=7\/op=8->Nf x->x.op≠23->Nf (.mk op 0 [] .zero .zero [x])
 | hund {x:Nd}:Nf x->x.op≠23->Nf (.mk 9 0 [] .zero .zero [x])
 | bin {i:Nat} {x y:Nd}:i<12->Nf x->x.op≠23->Nf y->y.op≠23->Nf (.mk (10+(i:Int)) 0 [] .zero .zero [x,y])
 | call {s:List UInt8} {ks:List Nd}:NameOk s->s.length<=8100->(∀ k∈ks,Nf k)->(∀ k,ks = [k]->k.op≠23)->Nf (.mk 22 0 s .zero .zero ks)
 | miss:Nf (.mk 23 0 [] .zero .zero [])
theorem flat_snd {α:Type} (c:α) (f:Nd->List α) (l:List Nd):(l.map fun x=>(x.op,f x)).flatMap (fun q=>c::q.2)=l.flatMap fun x=>c::f x:=by
 rw [List.flatMap_map]
def insD (least op:Int) (d:Nat):Nat:=if least<=levelP op then d else d+1
def nestK (op:Int) (ks:List (Int×Nat)):Nat:=
 if op=7\/op=8 then 1+insD 6 (ks.getD 0 (0,0)).1 (ks.getD 0 (0,0)).2
 else if op=9 then insD 7 (ks.getD 0 (0,0)).1 (ks.getD 0 (0,0)).2
 else if op=22 then 1+(ks.map (·.2)).foldr max 0
 else if 10<=op/\op<=21 then max (insD (levelP op) (ks.getD 0 (0,0)).1 (ks.getD 0 (0,0)).2) (insD (levelP op+1) (ks.getD 1 (0,0)).1 (ks.getD 1 (0,0)).2) else 0
mutual
def Nd.nest:Nd->Nat
 | .mk op _ _ _ _ kids=>nestK op (Nd.nests kids)
def Nd.nests:List Nd->List (Int×Nat)
 | [] => []
 | x::xs=>(x.op,x.nest)::Nd.nests xs
end
theorem Nd.nests_map:∀ l:List Nd,Nd.nests l=l.map fun x=>(x.op,x.nest)
 | []=>rfl
 | x::xs=>by rw [Nd.nests,Nd.nests_map xs];rfl
theorem lev_bin (i:Nat) (h:i<12):1<=levelP (10+(i:Int))/\levelP (10+(i:Int))<=5:=by
 unfold levelP
 rw [if_neg (by omega),if_neg (by omega),if_neg (by omega)]
 repeat' split
 all_goals decide
theorem spell_bin {i:Nat} (h:i<12) (x y:Nd):(Nd.mk (10+(i:Int)) 0 [] .zero .zero [x,y]).spell=insT (levelP (10+i)) x.op x.spell++signL.getD i []++insT (levelP (10+i)+1) y.op y.spell:=by
 rw [Nd.spell,Nd.spells,Nd.spells,Nd.spells,spellK]
 rw [if_neg (by omega),if_neg (by omega),if_neg (by omega),if_neg (by omega),if_neg (by omega),if_neg (by omega),if_neg (by omega),if_neg (by omega),if_neg (by omega),if_neg (by omega),show (10+(i:Int)-10).toNat=i by omega]
 rfl
theorem nest_bin {i:Nat} (h:i<12) (x y:Nd):(Nd.mk (10+(i:Int)) 0 [] .zero .zero [x,y]).nest=max (insD (levelP (10+i)) x.op x.nest) (insD (levelP (10+i)+1) y.op y.nest):=by
 rw [Nd.nest,Nd.nests,Nd.nests,Nd.nests,nestK]
 rw [if_neg (by omega),if_neg (by omega),if_neg (by omega),if_pos (by omega)]
 rfl
theorem spell_sign {op:Int} (h:op=7\/op=8) (x:Nd):(Nd.mk op 0 [] .zero .zero [x]).spell = [if op=7 then 45 else 43]++insT 6 x.op x.spell:=by
 rcases h with rfl|rfl<;>rfl
theorem nest_sign {op:Int} (h:op=7\/op=8) (x:Nd):(Nd.mk op 0 [] .zero .zero [x]).nest=1+insD 6 x.op x.nest:=by
 rcases h with rfl|rfl<;>rfl
theorem spell_hund (x:Nd):(Nd.mk 9 0 [] .zero .zero [x]).spell=insT 7 x.op x.spell ++ [37]:=rfl
theorem nest_hund (x:Nd):(Nd.mk 9 0 [] .zero .zero [x]).nest=insD 7 x.op x.nest:=rfl
def joinS (ks:List Nd):List UInt8:=match ks with
 | [] => []
 | x::xs=>x.spell++xs.flatMap fun k=>44::k.spell
theorem spell_call (s:List UInt8) (ks:List Nd):(Nd.mk 22 0 s .zero .zero ks).spell=s++([40]++(joinS ks ++ [41])):=by
 rw [Nd.spell,Nd.spells_map]
 show s++40::joinC _ ++ [41]=_
 cases ks with
 | nil=>simp [joinC,joinS]
 | cons x xs=>
   rw [List.map_cons,joinC,flat_snd]
   simp [joinS]
theorem nest_call (s:List UInt8) (ks:List Nd):(Nd.mk 22 0 s .zero .zero ks).nest=1+(ks.map Nd.nest).foldr max 0:=by
 rw [Nd.nest,Nd.nests_map]
 show 1+((ks.map fun x=>(x.op,x.nest)).map (·.2)).foldr max 0=_
 rw [List.map_map]
 rfl
theorem fail_text {k:Nat} (h:k<7):failT 4 (((k:Int)+1)*10000)=errL.getD k []:=by
 unfold failT
 rw [Int.mul_tdiv_cancel _ (by decide),if_neg (by omega),show ((k:Int)+1-1).toNat=k by omega]
end Go.A
namespace Go.A
open Go.Proofs Go.Lib
/-! Such texts' tokens. -/
end Go.A
namespace Go.A
open Go.Proofs Go.Lib
section
variable {T:List Tok}
variable (T)
variable {T}
/-! A kid,in brackets if it binds less closely. -/
/-! Leaves. -/
/-! Nodes with kids. -/
/-! Calls. -/
end
end Go.A
namespace Go.A
open Go.Proofs Go.Lib
/-! Great letters. -/
theorem byte_all {P:UInt8->Prop} [∀ c,Decidable (P c)] (h:(List.range 256).all (fun n=>decide (P (UInt8.ofNat n)))=true) (c:UInt8):P c:=by
 have:=List.all_eq_true.1 h c.toNat (List.mem_range.2 c.toNat_lt)
 simpa using this
theorem gr_letter (c:UInt8):letterP (greatC c).toNat=letterP c.toNat:=byte_all (P:=fun c=>letterP (greatC c).toNat=letterP c.toNat) (by decide +kernel) c
theorem gr_isL (c:UInt8):isL (greatC c)=isL c:=byte_all (P:=fun c=>isL (greatC c)=isL c) (by decide +kernel) c
theorem gr_isD (c:UInt8):isD (greatC c)=isD c/\(isD c=true->greatC c=c):=byte_all (P:=fun c=>isD (greatC c)=isD c/\(isD c=true->greatC c=c)) (by decide +kernel) c
theorem gr_sign (c:UInt8):((greatC c).toNat=48↔c.toNat=48)/\((greatC c).toNat=36↔c.toNat=36)/\((greatC c).toNat=46↔c.toNat=46)/\(((greatC c).toNat:Int)=95↔(c.toNat:Int)=95):=byte_all (P:=fun c=>((greatC c).toNat=48↔c.toNat=48)/\((greatC c).toNat=36↔c.toNat=36)/\((greatC c).toNat=46↔c.toNat=46)/\(((greatC c).toNat:Int)=95↔(c.toNat:Int)=95)) (by decide +kernel) c
theorem gr_word (c:UInt8):wordB (greatC c)=wordB c/\digB (greatC c)=digB c/\greatC (greatC c)=greatC c:=byte_all (P:=fun c=>wordB (greatC c)=wordB c/\digB (greatC c)=digB c/\greatC (greatC c)=greatC c) (by decide +kernel) c
theorem great_idem (l:List UInt8):greatP (greatP l)=greatP l:=by
 unfold greatP
 rw [List.map_map]
 exact List.map_congr_left fun c _=>(gr_word c).2.2
theorem runL_great (p:UInt8->Bool) (hp:∀ c,p (greatC c)=p c):∀ l,runL p (greatP l)=runL p l
 | []=>rfl
 | c::l=>by
   show runL p (greatC c::greatP l)=_
   rw [runL,runL,hp,runL_great p hp l]
theorem numF_great:∀ (l:List UInt8) (n:Int),numF n (greatP l)=numF n l
 | [],n=>rfl
 | c::l,n=>by
   show numF n (greatC c::greatP l)=_
   rw [numF,numF,(gr_isD c).1]
   by_cases h:isD c=true
   ·rw [if_pos h,if_pos h,(gr_isD c).2 h,numF_great l]
   ·rw [if_neg h,if_neg h]
theorem atP_great (l:List UInt8) (i:Nat):(atP (greatP l) i=48↔atP l i=48)/\(atP (greatP l) i=36↔atP l i=36)/\(atP (greatP l) i=95↔atP l i=95)/\letterP (atP (greatP l) i)=letterP (atP l i):=by
 unfold atP greatP
 rw [List.getElem?_map]
 cases l[i]? with
 | none=>exact ⟨Iff.rfl,Iff.rfl,Iff.rfl,rfl⟩
 | some c=>
   obtain ⟨h1,h2,h3,h4⟩:=gr_sign c
   simp only [Option.map_some]
   exact ⟨by omega,by omega,h4,gr_letter c⟩
theorem great_drop (l:List UInt8) (i:Nat):(greatP l).drop i=greatP (l.drop i):=by unfold greatP;rw [List.map_drop]
theorem great_take (l:List UInt8) (i:Nat):(greatP l).take i=greatP (l.take i):=by unfold greatP;rw [List.map_take]
theorem colF_gr:∀ (l:List UInt8) (n:Int),colF n (greatP l)=colF n l
 | [],n=>rfl
 | c::l,n=>by
   show colF n (greatC c::greatP l)=_
   rw [colF,colF,gr_letter]
   split
   ·rfl
   ·exact colF_gr l _
theorem columnP_gr (l:List UInt8):columnP (greatP l)=columnP l:=by unfold columnP;rw [colF_gr]
theorem readQ_gr (l:List UInt8) (i:Nat) (col:Int) (ar ac:Bool):readQ (greatP l) i col ar ac=readQ l i col ar ac:=by
 unfold readQ
 rw [great_drop,numF_great,runL_great isD fun c=>(gr_isD c).1]
 obtain ⟨a1,_,_,_⟩:=atP_great l i
 obtain ⟨_,_,b3,b4⟩:=atP_great l (i+runL isD (l.drop i))
 rw [b4]
 simp only [a1,b3]
theorem readR_gr (l:List UInt8) (i:Nat) (ac:Bool):readR (greatP l) i ac=readR l i ac:=by
 unfold readR
 rw [great_drop,runL_great isL gr_isL,great_take,great_drop,columnP_gr,readQ_gr,readQ_gr]
 simp only [(atP_great l (i+runL isL (l.drop i))).2.1]
theorem readP_gr (l:List UInt8):readP (greatP l)=readP l:=by
 unfold readP
 rw [readR_gr,readR_gr]
 simp only [(atP_great l 0).2.1]
theorem refB_gr (l:List UInt8):refB (greatP l)=refB l:=by
 unfold refB parseP
 rw [readP_gr,greatP_len]
theorem cutDot_gr:∀ l:List UInt8,cutDot (greatP l)=(greatP (cutDot l).1,(cutDot l).2.map greatP)
 | []=>rfl
 | c::l=>by
   show cutDot (greatC c::greatP l)=_
   rw [cutDot,cutDot,cutDot_gr l]
   by_cases h:c.toNat=46
   ·rw [if_pos h,if_pos ((gr_sign c).2.2.1.2 h)];rfl
   ·rw [if_neg h,if_neg (fun e=>h ((gr_sign c).2.2.1.1 e))];rfl
theorem all_gr (l:List UInt8):(greatP l).all digB=l.all digB:=by
 unfold greatP
 rw [List.all_map]
 congr 1
 funext c
 exact (gr_word c).2.1
theorem ne_gr (l:List UInt8):decide (greatP l ≠ [])=decide (l ≠ []):=by
 cases l<;>rfl
theorem numB_gr (l:List UInt8):numB (greatP l)=numB l:=by
 unfold numB
 rw [cutDot_gr]
 cases h:cutDot l with
 | mk w o=>
   cases o with
   | none=>simp only [Option.map_none];rw [ne_gr,all_gr]
   | some p=>
     simp only [Option.map_some]
     have e:greatP w++greatP p=greatP (w++p):=by unfold greatP;rw [List.map_append]
     rw [ne_gr,ne_gr,greatP_len,e,all_gr]
theorem nameB_gr (l:List UInt8):nameB (greatP l)=nameB l:=by
 unfold nameB
 rw [ne_gr]
 have h1:(greatP l).all (fun c=>wordB c && decide (c.toNat≠36))=l.all (fun c=>wordB c && decide (c.toNat≠36)):=by
  unfold greatP
  rw [List.all_map]
  congr 1
  funext c
  show (wordB (greatC c) && _)=_
  rw [(gr_word c).1]
  congr 1
  exact decide_eq_decide.2 (not_congr (gr_sign c).2.1)
 rw [h1]
 congr 2
 cases l with
 | nil=>rfl
 | cons c l=>
   show (digB (greatC c) || decide ((greatC c).toNat=46))=(digB c || decide (c.toNat=46))
   rw [(gr_word c).2.1]
   congr 1
   exact decide_eq_decide.2 (gr_sign c).2.2.1
/-! What tokens hold. -/
theorem quotedF_whole:∀ (k:Nat) (r:List UInt8) (p:Nat) (acc:List UInt8) kd t n,quotedF k r p acc = .tok kd t n->(∃ c,Sg acc c)->∃ c,Sg t c
 | 0,r,p,acc,kd,t,n,h,_=>by simp [quotedF] at h
 | k+1,r,p,acc,kd,t,n,h,ha=>by
   obtain ⟨c0,ha⟩:=ha
   by_cases hr:r = []
   ·subst hr;rw [quotedF_nil] at h;simp at h
   unfold quotedF at h
   rw [if_neg hr] at h
   split at h
   ·simp at h
   rename_i hv
   split at h
   ·have henc:=encode_decode r hr (by rintro ⟨h1,h2⟩;exact hv (by rw [<-h1,← h2]))
    rw [henc] at h
    exact quotedF_whole k _ _ _ kd t n h ⟨_,ha.join (Sg.one hr hv)⟩
   split at h
   ·exact quotedF_whole k _ _ _ kd t n h ⟨_,ha.join (Sg.ascii [34] (by decide))⟩
   ·simp only [Step.tok.injEq] at h
    obtain ⟨_,rfl,_⟩:=h
    exact ⟨_,ha⟩
theorem Sg.some {t:List UInt8} {c:Nat} (h:Sg t c):sgP t≠none:=by
 have:=(h.app []).1
 rw [List.append_nil,sgP_nil] at this
 rw [this]
 simp
structure TokNf (t:Tok):Prop where
 text:t.kind=2->sgP t.text≠none
 name:t.kind=3->NameOk t.text
theorem TokNf.of {kd:Int} {t:List UInt8} {a c:Nat} (h2:kd=2->sgP t≠none) (h3:kd=3->NameOk t):TokNf ⟨kd,t,a,c⟩:=⟨h2,h3⟩
theorem stepP_nf (r:List UInt8) {kd:Int} {t:List UInt8} {n:Nat} (h:stepP r = .tok kd t n) (a c:Nat):TokNf ⟨kd,t,a,c⟩:=by
 unfold stepP at h
 dsimp only at h
 split at h
 ·simp at h
 split at h
 ·simp at h
 split at h
 ·unfold wordsS at h
  dsimp only at h
  have hall:=runL_all2 wordB r
  split at h
  ·simp only [Step.tok.injEq] at h
   obtain ⟨rfl,rfl,rfl⟩:=h
   exact .of (fun h=>no1 h (by decide)) (fun h=>no1 h (by decide))
  rename_i hnum
  split at h
  ·simp only [Step.tok.injEq] at h
   obtain ⟨rfl,rfl,rfl⟩:=h
   exact .of (fun h=>no1 h (by decide)) (fun h=>no1 h (by decide))
  rename_i href
  split at h
  ·rename_i hn
   simp only [Step.tok.injEq] at h
   obtain ⟨rfl,rfl,rfl⟩:=h
   refine .of (fun h=>no1 h (by decide)) fun _=>⟨?_,by rw [nameB_gr];exact hn,by rw [numB_gr];simpa using hnum,by rw [refB_gr];simpa using href,great_idem _⟩
   intro c hc
   obtain ⟨d,hd,rfl⟩:=List.mem_map.1 hc
   rw [(gr_word d).1]
   exact hall d hd
  ·simp at h
 split at h
 ·obtain ⟨rfl,h2⟩:=quotedF_len _ _ _ _ _ _ _ h
  obtain ⟨c,hc⟩:=quotedF_whole _ _ _ _ _ _ _ h ⟨0,.nil⟩
  exact .of (fun _=>hc.some) (fun h=>no1 h (by decide))
 split at h
 ·obtain ⟨rfl,h2⟩:=failS_gd _ _ _ _ _ h
  exact .of (fun h=>no1 h (by decide)) (fun h=>no1 h (by decide))
 ·have key:kd=6:=by
   unfold opS at h
   split at h
   ·simp only [Step.tok.injEq] at h
    exact h.1.symm
   ·split at h
    ·simp only [Step.tok.injEq] at h
     exact h.1.symm
    ·split at h
     ·simp only [Step.tok.injEq] at h
      exact h.1.symm
     ·simp at h
  subst key
  exact .of (fun h=>no1 h (by decide)) (fun h=>no1 h (by decide))
theorem lexF_nf:∀ (k:Nat) (r:List UInt8) (a c:Nat) (acc L:List Tok) (x:Nat),lexF k r a c acc=(L,x,0)->(∀ t∈acc,TokNf t)->∀ t∈L,TokNf t
 | 0,r,a,c,acc,L,x,h,hacc=>by simp [lexF] at h
 | k+1,r,a,c,acc,L,x,h,hacc=>by
   rw [lexF] at h
   split at h
   ·simp only [Prod.mk.injEq] at h
    obtain ⟨rfl,_⟩:=h
    intro t ht
    rcases List.mem_append.1 ht with ht|ht
    ·exact hacc t ht
    ·simp at ht;subst ht;exact .of (fun h=>no1 h (by decide)) (fun h=>no1 h (by decide))
   ·split at h
    ·simp at h
    ·exact lexF_nf k _ _ _ _ _ _ h hacc
    ·rename_i kd t n hst
     exact lexF_nf k _ _ _ _ _ _ h (fun u hu=>by
      rcases List.mem_append.1 hu with hu|hu
      ·exact hacc u hu
      ·simp at hu;subst hu;exact stepP_nf r hst a c)
theorem lex_nf {s:List UInt8} (h:(lexP s).2.2=0) (i:Nat):TokNf ((lexP s).1.getD i endT):=by
 have hall:∀ t∈(lexP s).1,TokNf t:=by
  unfold lexP at h ⊢
  split
  ·intro t ht;cases ht
  ·rename_i hl
   rw [if_neg hl] at h
   obtain ⟨R,hR⟩:∃ R,lexF (s.length+1) s 0 0 []=R:=⟨_,rfl⟩
   rw [hR] at h ⊢
   obtain ⟨L,x,e⟩:=R
   dsimp only at h ⊢
   subst h
   exact lexF_nf _ _ _ _ _ _ _ hR (by simp)
 rw [List.getD_eq_getElem?_getD]
 cases hi:(lexP s).1[i]? with
 | none=>exact .of (fun h=>no1 h (by decide)) (fun h=>no1 h (by decide))
 | some t=>exact hall t (List.mem_of_getElem? hi)
theorem numB_min {s:List UInt8} (h:numB s=true):s.head? ≠ some 45:=by
 intro e
 cases s with
 | nil=>cases e
 | cons c s=>
   injection e with e
   subst e
   unfold numB at h
   rw [cutDot,if_neg (by decide)] at h
   split at h
   ·rename_i w he
    injection he with h1 h2
    subst h1
    simp only [List.all_cons,Bool.and_eq_true] at h
    exact absurd h.2.1 (by decide)
   ·rename_i w p he
    injection he with h1 h2
    subst h1
    simp only [List.cons_append,List.all_cons,Bool.and_eq_true] at h
    exact absurd h.2.1 (by decide)
theorem parseD_pos {s:List UInt8} {v:Int} (hn:numB s=true) (h:parseD s=some v):0<=v:=by
 have hm:=numB_min hn
 unfold parseD at h
 dsimp only at h
 rw [if_neg hm,decide_eq_false hm] at h
 unfold parseQ at h
 split at h
 ·cases h
 ·obtain ⟨n,_,hn⟩:=Option.bind_eq_some_iff.1 h
  unfold madeP at hn
  split at hn
  ·injection hn with hn
   simp only [Bool.false_eq_true,if_false] at hn
   omega
  ·cases hn
/-! The parser's trees. -/
theorem insD_up {a b op:Int} {d:Nat} (h:a<=b):insD a op d<=insD b op d:=by
 unfold insD
 split<;>split<;>omega
theorem insD_le (a op:Int) (d:Nat):d<=insD a op d/\insD a op d<=d+1:=by
 unfold insD
 split<;>omega
theorem insD_top {a op:Int} {d:Nat} (h:a<=levelP op):insD a op d=d:=if_pos h
theorem sign_is {x:List UInt8} {l:Nat} (hl:l<5) (h:x∈levelsL.getD l []):levelP (10+idxP signL x)=l+1:=by
 have key:∀ l<5,∀ y∈levelsL.getD l [],levelP (10+idxP signL y)=l+1:=by decide
 exact key l hl x h
theorem op_mk (op n:Int) (s:List UInt8) (a b:Ref) (ks:List Nd):(Nd.mk op n s a b ks).op=op:=rfl
section
variable {T:List Tok}
def Okn (d:Int) (least:Int) (n:Nd):Prop:=Nf n/\n.op≠23/\d+insD least n.op n.nest<=40
structure NfF (T:List Tok) (f:Nat):Prop where
 betw:∀ (lvl:Nat) s r,betwP T f lvl s=some r->lvl<=5->Fit T s->r.2.err=0->Okn s.deep (lvl+1) r.1
 loop:∀ (lvl:Nat) n s r,loopP T f lvl n s=some r->lvl<5->Fit T s->r.2.err=0->Okn s.deep (lvl+1) n->Okn s.deep (lvl+1) r.1
 signed:∀ s r,signedP T f s=some r->Fit T s->r.2.err=0->Okn s.deep 6 r.1
 hundred:∀ s r,hundredP T f s=some r->Fit T s->r.2.err=0->Okn s.deep 7 r.1
 hloop:∀ n s r,hloopP T f n s=some r->Fit T s->r.2.err=0->Okn s.deep 7 n->Okn s.deep 7 r.1
 prim:∀ s r,primP T f s=some r->Fit T s->r.2.err=0->Okn s.deep 8 r.1
 name:∀ s r,nameP T f s=some r->Fit T s->(curT T s).kind=3->r.2.err=0->Okn s.deep 8 r.1
 args:∀ s r,argsP T f s=some r->Fit T s->r.2.err=0->(∀ x∈r.1,Nf x/\s.deep+x.nest<=40)/\∀ k,r.1 = [k]->k.op≠23
 aloop:∀ l s r,aloopP T f l s=some r->Fit T s->r.2.err=0->(∀ x∈l,Nf x/\s.deep+x.nest<=40)->(l = []->isOp T s [41]=false)->(∀ x∈r.1,Nf x/\s.deep+x.nest<=40)/\l.length<r.1.length/\∀ k,r.1 = [k]->k.op≠23
theorem Okn.leaf {d:Int} {n:Nd} (h:Nf n) (h2:levelP n.op=8) (h3:n.op≠23) (h0:n.nest=0) (hd:d<=40):Okn d 8 n:=⟨h,h3,by rw [insD_top (by omega),h0];omega⟩
theorem Okn.down {d a b:Int} {n:Nd} (h:Okn d b n) (hab:a<=b):Okn d a n:=⟨h.1,h.2.1,by have:=insD_up (op:=n.op) (d:=n.nest) hab;have:=h.2.2;omega⟩
theorem idx_sig {x:List UInt8} {l:Nat} (h:x∈levelsL.getD l []):∃ i:Nat,i<12/\idxP signL x=i:=by
 have:=sign_rng h
 exact ⟨(idxP signL x).toNat,by omega,by omega⟩
theorem nest_max (ks:List Nd) (m:Int) (h0:0<=m) (h:∀ x∈ks,(x.nest:Int)<=m):(((ks.map Nd.nest).foldr max 0:Nat):Int)<=m:=by
 induction ks with
 | nil=>simpa using h0
 | cons x ks ih=>
   have h1:=h x (by simp)
   have h2:=ih fun y hy=>h y (by simp [hy])
   rw [List.map_cons,List.foldr_cons]
   omega
theorem nfF (hT:Ends T) (hG:∀ i,(T.getD i endT).kind≠0->TokGd (T.getD i endT)) (hN:∀ i,TokNf (T.getD i endT)):∀ f,NfF T f
 | 0=>by
   constructor
   ·intro lvl s r h;simp only [betwP,reduceCtorEq] at h
   ·intro lvl n s r h;simp only [loopP,reduceCtorEq] at h
   ·intro s r h;simp only [signedP,reduceCtorEq] at h
   ·intro s r h;simp only [hundredP,reduceCtorEq] at h
   ·intro n s r h;simp only [hloopP,reduceCtorEq] at h
   ·intro s r h;simp only [primP,reduceCtorEq] at h
   ·intro s r h;simp only [nameP,reduceCtorEq] at h
   ·intro s r h;simp only [argsP,reduceCtorEq] at h
   ·intro l s r h;simp only [aloopP,reduceCtorEq] at h
 | f+1=>by
   have ih:=nfF hT hG hN f
   have W:=wentF hT f
   constructor
   ·intro lvl s r h hl hf h0
    rw [betwP] at h
    split at h
    ·rename_i h5;subst h5;exact ih.signed s r h hf h0
    ·split at h
     ·cases h
     ·rename_i h5 _ r1 h1
      have w1:=W.betw _ _ _ h1 hf
      have w2:=W.loop _ _ _ _ h w1.fit
      have g1:=ih.betw _ _ _ h1 (by omega) hf (w2.e0 h0)
      have g2:=ih.loop _ _ _ _ h (by omega) w1.fit h0 (by rw [w1.deep];exact g1.down (by omega))
      rw [w1.deep] at g2
      exact g2
   ·intro lvl n s r h hl hf h0 hn
    rw [loopP] at h
    split at h
    ·rename_i hk
     split at h
     ·cases h
     ·rename_i r1 h1
      have w0:=Went.next hT hf (sgn_kind hk)
      have w1:=W.betw _ _ _ h1 w0.fit
      have w2:=W.loop _ _ _ _ h w1.fit
      have g1:=ih.betw _ _ _ h1 (by omega) w0.fit (w2.e0 h0)
      have hs:(curT T s).text∈levelsL.getD lvl []:=by
       unfold sgn at hk
       simp only [Bool.and_eq_true,decide_eq_true_eq] at hk
       exact hk.2
      have hlv:=sign_is hl hs
      obtain ⟨i,hi,hix⟩:=idx_sig hs
      rw [hix] at h hlv
      have hd:r1.2.deep=s.deep:=by rw [w1.deep];rfl
      have hb:Okn s.deep (lvl+1) (.mk (10+(i:Int)) 0 [] .zero .zero [n,r1.1]):=by
       refine ⟨.bin hi hn.1 hn.2.1 g1.1 g1.2.1,by show 10+(i:Int)≠23;omega,?_⟩
       rw [nest_bin hi,op_mk,insD_top (show (lvl:Int)+1<=levelP (10+(i:Int)) by omega),hlv]
       have a1:=hn.2.2
       have a2:s.deep+insD ((lvl+1:Nat)+1) r1.1.op r1.1.nest<=40:=g1.2.2
       rw [show (((lvl+1:Nat):Int)+1)=(lvl:Int)+1+1 by omega] at a2
       omega
      have g2:=ih.loop _ _ _ _ h hl w1.fit h0 (by rw [hd];exact hb)
      rw [hd] at g2
      exact g2
    ·injection h with h;subst h;exact hn
   ·intro s r h hf h0
    rw [signedP] at h
    have one:∀ (op:Int) (r1:Nd×PSt),op=7\/op=8->isOp T s [if op=7 then 45 else 43]=true->signedP T f (stepP1 (enterP T s))=some r1->r1.2.err=0->Okn s.deep 6 (.mk op 0 [] .zero .zero [r1.1]):=by
     intro op r1 ho hk h1 he
     obtain ⟨e1,e2,e3⟩:=enter_fit hT hf (isOp_kind hk)
     have w1:=W.signed _ _ h1 e1
     have g1:=ih.signed _ _ h1 e1 he
     rw [e2] at g1
     refine ⟨.sign ho g1.1 g1.2.1,by show op≠23;omega,?_⟩
     rw [nest_sign ho,op_mk,insD_top (show (6:Int)<=levelP op by rcases ho with rfl|rfl<;>decide)]
     have:=g1.2.2
     omega
    split at h
    ·rename_i hk
     split at h
     ·cases h
     ·rename_i r1 h1
      injection h with h;subst h
      exact one 7 r1 (.inl rfl) hk h1 h0
    split at h
    ·rename_i hk
     split at h
     ·cases h
     ·rename_i r1 h1
      injection h with h;subst h
      exact one 8 r1 (.inr rfl) hk h1 h0
    ·exact (ih.hundred _ _ h hf h0).down (by decide)
   ·intro s r h hf h0
    rw [hundredP] at h
    split at h
    ·cases h
    ·rename_i r1 h1
     have w1:=W.prim _ _ h1 hf
     have w2:=W.hloop _ _ _ h w1.fit
     have g1:=ih.prim _ _ h1 hf (w2.e0 h0)
     have g2:=ih.hloop _ _ _ h w1.fit h0 (by rw [w1.deep];exact g1.down (by decide))
     rw [w1.deep] at g2
     exact g2
   ·intro n s r h hf h0 hn
    rw [hloopP] at h
    split at h
    ·rename_i hk
     have w0:=Went.next hT hf (isOp_kind hk)
     have g:=ih.hloop _ _ _ h w0.fit h0
     refine g ⟨.hund hn.1 hn.2.1,by show (9:Int)≠23;decide,?_⟩
     rw [nest_hund,op_mk,insD_top (show (7:Int)<=levelP 9 by decide)]
     exact hn.2.2
    ·injection h with h;subst h;exact hn
   ·intro s r h hf h0
    have hd:=hf.d2
    have hgd:(curT T s).kind≠0->TokGd (curT T s)/\TokNf (curT T s)/\s.deep<=40:=fun hk=>by
     have he:=cur_err hk
     rw [cur_at he] at hk ⊢
     exact ⟨hG _ hk,hN _,hd he⟩
    rw [primP] at h
    split at h
    ·rename_i hk
     obtain ⟨t1,t2,t3⟩:=hgd (by omega)
     split at h
     ·injection h with h;subst h;exact absurd h0 fun h=>fail_err (by decide) h
     ·rename_i v hv
      injection h with h;subst h
      have:=parseD_rng hv
      have:=parseD_pos (t1.num hk) hv
      exact Okn.leaf (.num (by omega) (by omega)) rfl (show (1:Int)≠23 by decide) rfl t3
    split at h
    ·rename_i hk
     obtain ⟨t1,t2,t3⟩:=hgd (by omega)
     injection h with h;subst h
     exact Okn.leaf (.text (t2.text hk) t1.len) rfl (show (2:Int)≠23 by decide) rfl t3
    split at h
    ·rename_i hk
     obtain ⟨t1,t2,t3⟩:=hgd (by omega)
     injection h with h;subst h
     have hr:=fault_rng (t1.err hk)
     obtain ⟨k,hk7,hke⟩:∃ k:Nat,k<7/\idxP errL (curT T s).text=k:=⟨(idxP errL (curT T s).text).toNat,by omega,by omega⟩
     rw [hke]
     exact Okn.leaf (.fail hk7) rfl (show (4:Int)≠23 by decide) rfl t3
    split at h
    ·rename_i hk
     obtain ⟨t1,t2,t3⟩:=hgd (by omega)
     injection h with h;subst h
     unfold areaP at h0 ⊢
     split at h0
     ·rename_i ho
      rw [if_pos ho]
      exact Okn.leaf (.cell (parseP_good _)) rfl (show (5:Int)≠23 by decide) rfl t3
     ·rename_i ho
      rw [if_neg ho]
      split at h0
      ·exact absurd h0 fun h=>fail_err (by decide) h
      ·rename_i hk2
       rw [if_neg hk2]
       exact Okn.leaf (.area (parseP_good _) (parseP_good _)) rfl (show (6:Int)≠23 by decide) rfl t3
    split at h
    ·rename_i hk
     exact ih.name _ _ h hf hk h0
    split at h
    ·rename_i hk
     split at h
     ·cases h
     ·rename_i r1 h1
      injection h with h;subst h
      obtain ⟨e1,e2,e3⟩:=enter_fit hT hf (isOp_kind hk)
      obtain ⟨m1,m2⟩:=must_i (T:=T) (s:=r1.2) (x := [41]) h0
      have g1:=ih.betw _ _ _ h1 (by omega) e1 m1
      rw [e2] at g1
      refine ⟨g1.1,g1.2.1,?_⟩
      have:=g1.2.2
      have:=(insD_le (((0:Nat):Int)+1) r1.1.op r1.1.nest).1
      have:=(insD_le 8 r1.1.op r1.1.nest).2
      dsimp only
      omega
    ·injection h with h;subst h;exact absurd h0 fun h=>fail_err (by decide) h
   ·intro s r h hf hk3 h0
    have he0:s.err=0:=cur_err (T:=T) (by omega)
    have hn:=hf.next hT (by omega)
    have hd:=hf.d2 he0
    have hnf:TokNf (curT T s):=by rw [cur_at he0];exact hN _
    have hgd:TokGd (curT T s):=by
     have hk:(curT T s).kind≠0:=by omega
     rw [cur_at he0] at hk ⊢
     exact hG _ hk
    rw [nameP] at h
    split at h
    ·rename_i hk
     split at h
     ·rename_i he
      injection h with h;subst h
      exact absurd h0 he
     ·rename_i he
      split at h
      ·cases h
      ·rename_i r1 h1
       injection h with h;subst h
       obtain ⟨g1,g2,g3,_⟩:=enter2 hT hf (by omega) (by simpa using he)
       have hl:=hT.more (s.i+1) hn.1.i (by omega)
       have g4:Fit T (enterP T s).next.next:=⟨by show (enterP T s).i+1+1<_;omega,g1.d0,g1.d1,g1.d2⟩
       obtain ⟨k1,k2⟩:=ih.args _ _ h1 g4 h0
       have hdd:(enterP T s).next.next.deep=s.deep+1:=by
        show (enterP T s).deep=_
        unfold enterP
        split
        ·unfold failP;split<;>rfl
        ·rfl
       rw [hdd] at k1
       have hen:s.deep+1<=40:=by
        rcases Int.lt_or_le 40 (s.deep+1) with h40|h40
        ·exfalso
         apply he
         unfold enterP
         rw [if_pos h40]
         unfold failP
         simp [he0]
        ·exact h40
       refine ⟨.call (hnf.name hk3) hgd.len (fun k hk'=>(k1 k hk').1) k2,by show (22:Int)≠23;decide,?_⟩
       rw [op_mk,insD_top (show (8:Int)<=levelP 22 by decide),nest_call]
       have:=nest_max r1.1 (40-(s.deep+1)) (by omega) (fun x hx=>by have:=(k1 x hx).2;omega)
       omega
    split at h
    ·injection h with h;subst h
     exact Okn.leaf (.truth (.inr rfl)) rfl (show (3:Int)≠23 by decide) rfl hd
    split at h
    ·injection h with h;subst h
     exact Okn.leaf (.truth (.inl rfl)) rfl (show (3:Int)≠23 by decide) rfl hd
    ·injection h with h;subst h;exact absurd h0 fun h=>fail_err (by decide) h
   ·intro s r h hf h0
    rw [argsP] at h
    split at h
    ·injection h with h;subst h
     exact ⟨fun x hx=>(by cases hx),fun k hk=>(by cases hk)⟩
    ·rename_i hk
     obtain ⟨k1,_,k3⟩:=ih.aloop _ _ _ h hf h0 (fun x hx=>(by cases hx)) (fun _=>by simpa using hk)
     exact ⟨k1,k3⟩
   ·intro l s r h hf h0 hl hb
    rw [aloopP] at h
    split at h
    ·rename_i he
     injection h with h;subst h;exact absurd h0 he
    ·rename_i he
     have hd:=hf.d2 (by simpa using he)
     split at h
     ·cases h
     ·rename_i r1 h1
      have w1:Went T s r1.2:=by
       split at h1
       ·injection h1 with h1;subst h1;exact Went.refl hf
       ·exact W.betw _ _ _ h1 hf
      have key:r1.2.err=0->(Nf r1.1/\s.deep+r1.1.nest<=40):=fun k0=>by
       split at h1
       ·injection h1 with h1;subst h1
        exact ⟨.miss,by show s.deep+((0:Nat):Int)<=40;omega⟩
       ·obtain ⟨k1,k2,k3⟩:=ih.betw _ _ _ h1 (by omega) hf k0
        have:=(insD_le (((0:Nat):Int)+1) r1.1.op r1.1.nest).1
        exact ⟨k1,by omega⟩
      have hmem:(Nf r1.1/\s.deep+r1.1.nest<=40)->∀ x∈l ++ [r1.1],Nf x/\s.deep+x.nest<=40:=fun k x hx=>by
       rcases List.mem_append.1 hx with hx|hx
       ·exact hl x hx
       ·simp at hx;subst hx;exact k
      split at h
      ·rename_i hk
       have w2:=Went.next hT w1.fit (isOp_kind hk)
       have w3:=W.aloop _ _ _ h w2.fit
       have k1:=key (w2.e0 (w3.e0 h0))
       have hdd:r1.2.next.deep=s.deep:=w1.deep
       obtain ⟨g1,g2,g3⟩:=ih.aloop _ _ _ h w2.fit h0 (by rw [hdd];exact hmem k1) (fun e=>by simp at e)
       rw [hdd] at g1
       rw [List.length_append,List.length_singleton] at g2
       refine ⟨g1,by omega,fun k hk'=>?_⟩
       rw [hk'] at g2
       simp at g2
      ·rename_i hk
       injection h with h;subst h
       obtain ⟨m1,m2⟩:=must_i (T:=T) (s:=r1.2) (x := [41]) h0
       have k1:=key m1
       refine ⟨hmem k1,by dsimp only;rw [List.length_append,List.length_singleton];omega,fun k hk'=>?_⟩
       dsimp only at hk'
       cases l with
       | cons y l=>
         have:=congrArg List.length hk'
         simp at this
       | nil=>
         simp only [List.nil_append,List.cons.injEq,and_true] at hk'
         subst hk'
         split at h1
         ·rename_i hor
          injection h1 with h1;subst h1
          exfalso
          rcases hor with hor|hor
          ·exact hk hor
          ·rw [hb rfl] at hor;cases hor
         ·exact (ih.betw _ _ _ h1 (by omega) hf m1).2.1
end
theorem parseR_nf {s:List UInt8} (h:(parseR s).2.2=0):Nf (parseR s).1/\(parseR s).1.op≠23/\(parseR s).1.nest<=40:=by
 unfold parseR parseT at h ⊢
 by_cases h1:(lexP s).2.2=0
 ·obtain ⟨hT,hL,hG⟩:=lex_toks h1
  obtain ⟨r,hr⟩:=betw_some h1
  have hr':=hr
  unfold st0 at hr
  rw [if_neg (by simp [h1]),hr] at h ⊢
  dsimp only at h ⊢
  obtain ⟨q,hq⟩:∃ q,(if (curT (lexP s).1 r.2).kind≠0 then failP (lexP s).1 r.2 10 else r.2)=q:=⟨_,rfl⟩
  rw [hq] at h ⊢
  by_cases he:q.err≠0
  ·rw [if_pos he] at h
   exact absurd h he
  ·rw [if_neg he]
   have h0:r.2.err=0:=by
    split at hq
    ·subst hq
     exact absurd (by simpa using he) fun h=>fail_err (T:=(lexP s).1) (s:=r.2) (e:=10) (by decide) h
    ·subst hq
     simpa using he
   obtain ⟨g1,g2,g3⟩:=(nfF hT.ends hG (lex_nf h1) _).betw _ _ _ hr' (by omega) (st0_fit hT.ends) h0
   have hd0:st0.deep=0:=rfl
   have:=(insD_le (((0:Nat):Int)+1) r.1.op r.1.nest).1
   exact ⟨g1,g2,by show r.1.nest<=40;omega⟩
 ·rw [if_pos (by simpa using h1)] at h
  exact absurd h h1
/-! Grown trees. -/
end Go.A
namespace Go.A
open Go.Proofs Go.Lib
theorem lv_set {σ:ASt} {b:Nat} {r:Option Role} (h:LV σ) (hb:σ b=none):LV (σ.set b r):=by
 unfold LV at h ⊢
 rw [ASt.set_ne]
 ·exact h
 ·intro e;rw [e,hb] at h;cases h
end Go.A
namespace Go.A
open Go.Proofs Go.Lib
theorem dbl_le2 (s:List UInt8):(dbl s).length<=2*s.length:=by
 unfold dbl
 induction s with
 | nil=>simp
 | cons c s ih=>
   rw [List.flatMap_cons,List.length_append,List.length_cons]
   split<;>simp only [List.length_cons,List.length_nil]<;>omega
theorem quotT_len (s:List UInt8):(quotT s).length<=2*s.length+2:=by
 have h:(quotT s).length=(dbl s).length+2:=by unfold quotT dbl;simp
 have:=dbl_le2 s
 omega
theorem insT_len (least op:Int) (x:List UInt8):(insT least op x).length<=x.length+2:=by
 unfold insT
 split
 ·omega
 ·simp
theorem signs_le2:∀ i<12,(signL.getD i []).length<=2:=by decide
theorem errL_len:∀ k<7,(errL.getD k []).length<=7:=by decide
theorem joinS_len (ks:List Nd) (h:∀ k∈ks,k.spell.length+1<=16300*k.size):(joinS ks).length<=16300*Nd.sizes ks:=by
 have flat:∀ l:List Nd,(∀ k∈l,k.spell.length+1<=16300*k.size)->(l.flatMap fun k=>44::k.spell).length<=16300*Nd.sizes l:=by
  intro l
  induction l with
  | nil=>intro _;simp
  | cons x l ih=>
    intro hl
    have h1:=hl x (by simp)
    have h2:=ih fun k hk=>hl k (by simp [hk])
    rw [List.flatMap_cons,List.length_append,List.length_cons,Nd.sizes]
    omega
 cases ks with
 | nil=>simp [joinS]
 | cons x l=>
   have h1:=h x (by simp)
   have h2:=flat l fun k hk=>h k (by simp [hk])
   rw [joinS,List.length_append,Nd.sizes]
   omega
theorem nf_spell {n:Nd} (h:Nf n):n.spell.length+1<=16300*n.size:=by
 induction h with
 | @num n h0 h1=>
   have e:(Nd.mk 1 n [] .zero .zero []).spell=textD n:=rfl
   have:=textD_len (a:=n) (by omega)
   rw [leaf_size,e]
   omega
 | @text s _ hs=>
   have e:(Nd.mk 2 0 s .zero .zero []).spell=quotT s:=rfl
   have:=quotT_len s
   rw [leaf_size,e]
   omega
 | @truth b hb=>
   rcases hb with rfl|rfl
   ·exact (by decide:6<=16300*1)
   ·exact (by decide:5<=16300*1)
 | @fail k hk=>
   have e:(Nd.mk 4 (((k:Int)+1)*10000) [] .zero .zero []).spell=errL.getD k []:=fail_text hk
   have:=errL_len k hk
   rw [leaf_size,e]
   omega
 | @cell r hr=>
   have e:(Nd.mk 5 0 [] r .zero []).spell=textP r:=rfl
   have:=text_len hr
   rw [leaf_size,e]
   omega
 | @area r q hr hq=>
   have e:(Nd.mk 6 0 [] r q []).spell=textP r ++ [58]++textP q:=rfl
   have:=text_len hr
   have:=text_len hq
   rw [leaf_size,e,List.length_append,List.length_append,List.length_singleton]
   omega
 | @sign op x ho hx hne ih=>
   have:=insT_len 6 x.op x.spell
   rw [one_size,spell_sign ho,List.length_append,List.length_singleton]
   omega
 | @hund x hx hne ih=>
   have:=insT_len 7 x.op x.spell
   rw [one_size,spell_hund,List.length_append,List.length_singleton]
   omega
 | @bin i x y hi hx hnx hy hny ihx ihy=>
   have h1:=insT_len (levelP (10+i)) x.op x.spell
   have h2:=insT_len (levelP (10+i)+1) y.op y.spell
   have h3:=signs_le2 i hi
   rw [two_size,spell_bin hi,List.length_append,List.length_append]
   omega
 | @call s ks hs hl hk hm ih=>
   have h1:=joinS_len ks ih
   rw [Nd.size,spell_call,List.length_append,List.length_append,List.length_append,List.length_singleton,List.length_singleton]
   omega
 | miss=>exact (by decide:1<=16300*1)
end Go.A
namespace Go.A
open Go.Proofs
/-! 3: tabular/tabularlaw20.TileTyped -/
def c3_7:ACode := .seq (.ops [ oe 1 (.box (.t 0)),oq 2 (.mv (.v (.bool false)))]) (.seq (.ops [ oq 5 (.ld (some 5) (.t 1)),oe 6 (.call 8 [(.t 5)]),oe 3 (.alloc [(.int .i64 0),(.int .i64 0),(.str []),(.int .i64 0),(.int .i64 0),(.bool false),(.bool false),(.int .i64 0),(.int .i64 0),(.bool false),(.bool false),(.sl .full []),.nili]),oz (.store 13 (.t 3) (.t 6))]) (.seq (.ops [ oq 7 (.ld (some 13) (.t 3)),oe 8 (.call 9 [(.t 7)]),oq 4 (.mv (.t 8))]) (.seq (.ops [ oe 9 (.call 10 []),oq 10 (.mv (.t 9)),⟨some 11,some (10,true),.q (.mv (.t 4)),[]⟩,⟨some 12,some (10,true),.q (.lenS (.t 11)),[]⟩,⟨some 13,some (10,true),.q (.bin .gtr (.t 12) (.v (.int .i64 0))),[]⟩,⟨some 14,some (10,true),.q (.mv (.t 13)),[]⟩,⟨some 15,some (14,true),.q (.mv (.t 4)),[]⟩,⟨some 16,some (14,true),.q (.idx (.t 15) (.v (.int .i64 0))),[]⟩,⟨some 17,some (14,true),.q (.bin .eql (.t 16) (.v (.int .u8 61))),[]⟩,⟨some 18,some (10,true),.q (.pick (.t 14) (.t 17) (.v (.bool false))),[]⟩,⟨some 19,some (10,true),.q (.ld (some 13) (.t 3)),[]⟩,⟨some 20,some (10,true),.e (.call 11 [(.t 19)]),[]⟩,⟨some 21,some (10,true),.q (.eq .b false (.t 18) (.t 20)),[]⟩,oq 22 (.pick (.t 10) (.t 21) (.v (.bool false))),oq 23 (.mv (.t 22)),⟨some 24,some (23,true),.q (.mv (.t 4)),[]⟩,⟨some 25,some (23,true),.q (.bin .eql (.t 24) (.v (.str []))),[]⟩,⟨some 26,some (23,true),.q (.ld (some 13) (.t 3)),[]⟩,⟨some 27,some (23,true),.e (.call 12 [(.t 26)]),[]⟩,⟨some 28,some (23,true),.q (.eq .b false (.t 25) (.t 27)),[]⟩,oq 29 (.pick (.t 23) (.t 28) (.v (.bool false))),oq 2 (.mv (.t 29))]) .ret)))
@[go_sem] def c3_7_wp:=wp_of c3_7.eq_1
def c3:AFn:=⟨30,[.t 2],c3_7⟩
theorem c3_ok:compF Tryz.prog Tryz.f3=some c3:=by kernel_rfl
theorem a3 {args:List AV} {σ:ASt} {R:AV->ASt->Prop} (hl:args.length<=30) (h:c3_7.wp Tryz.prog (RetQ [.t 2] R) (init args) σ):ACalls Tryz.prog 3 args σ R:=acalls_of Tryz.func3 c3_ok hl h
/-! 10: tabular/tabularlaw20.awake -/
def c10_1:ACode := .ops [ oq 2 (.build [(.int .i64 0),(.int .i64 0),(.str []),(.int .i64 0),(.int .i64 0),(.bool false),(.bool false),(.int .i64 0),(.int .i64 0),(.bool false),(.bool false),(.sl .full []),.nili,(.int .i64 0),(.int .i64 0),(.str []),(.int .i64 0),(.int .i64 0),(.bool false),(.bool false),(.int .i64 0),(.int .i64 0),(.bool false),(.bool false),(.sl .full []),.nili,(.int .i64 0),(.int .i64 0),(.str []),(.int .i64 0),(.int .i64 0),(.bool false),(.bool false),(.int .i64 0),(.int .i64 0),(.bool false),(.bool false),(.sl .full []),.nili,(.int .i64 0),(.int .i64 0),(.str []),(.int .i64 0),(.int .i64 0),(.bool false),(.bool false),(.int .i64 0),(.int .i64 0),(.bool false),(.bool false),(.sl .full []),.nili,(.int .i64 0),(.int .i64 0),(.str []),(.int .i64 0),(.int .i64 0),(.bool false),(.bool false),(.int .i64 0),(.int .i64 0),(.bool false),(.bool false),(.sl .full []),.nili,(.int .i64 0),(.int .i64 0),(.str []),(.int .i64 0),(.int .i64 0),(.bool false),(.bool false),(.int .i64 0),(.int .i64 0),(.bool false),(.bool false),(.sl .full []),.nili,(.int .i64 0),(.int .i64 0),(.str []),(.int .i64 0),(.int .i64 0),(.bool false),(.bool false),(.int .i64 0),(.int .i64 0),(.bool false),(.bool false),(.sl .full []),.nili,(.int .i64 0),(.int .i64 0),(.str []),(.int .i64 0),(.int .i64 0),(.bool false),(.bool false),(.int .i64 0),(.int .i64 0),(.bool false),(.bool false),(.sl .full []),.nili,(.int .i64 0),(.int .i64 0),(.str []),(.int .i64 0),(.int .i64 0),(.bool false),(.bool false),(.int .i64 0),(.int .i64 0),(.bool false),(.bool false),(.sl .full []),.nili,(.int .i64 0),(.int .i64 0),(.str []),(.int .i64 0),(.int .i64 0),(.bool false),(.bool false),(.int .i64 0),(.int .i64 0),(.bool false),(.bool false),(.sl .full []),.nili,(.int .i64 0),(.int .i64 0),(.str []),(.int .i64 0),(.int .i64 0),(.bool false),(.bool false),(.int .i64 0),(.int .i64 0),(.bool false),(.bool false),(.sl .full []),.nili,(.int .i64 0),(.int .i64 0),(.str []),(.int .i64 0),(.int .i64 0),(.bool false),(.bool false),(.int .i64 0),(.int .i64 0),(.bool false),(.bool false),(.sl .full []),.nili,(.int .i64 0),(.int .i64 0),(.str []),(.int .i64 0),(.int .i64 0),(.bool false),(.bool false),(.int .i64 0),(.int .i64 0),(.bool false),(.bool false),(.sl .full []),.nili,(.int .i64 0),(.int .i64 0),(.str []),(.int .i64 0),(.int .i64 0),(.bool false),(.bool false),(.int .i64 0),(.int .i64 0),(.bool false),(.bool false),(.sl .full []),.nili,(.int .i64 0),(.int .i64 0),(.str []),(.int .i64 0),(.int .i64 0),(.bool false),(.bool false),(.int .i64 0),(.int .i64 0),(.bool false),(.bool false),(.sl .full []),.nili,(.int .i64 0),(.int .i64 0),(.str []),(.int .i64 0),(.int .i64 0),(.bool false),(.bool false),(.int .i64 0),(.int .i64 0),(.bool false),(.bool false),(.sl .full []),.nili,(.int .i64 0),(.int .i64 0),(.str []),(.int .i64 0),(.int .i64 0),(.bool false),(.bool false),(.int .i64 0),(.int .i64 0),(.bool false),(.bool false),(.sl .full []),.nili,(.int .i64 0),(.int .i64 0),(.str []),(.int .i64 0),(.int .i64 0),(.bool false),(.bool false),(.int .i64 0),(.int .i64 0),(.bool false),(.bool false),(.sl .full []),.nili,(.int .i64 0),(.int .i64 0),(.str []),(.int .i64 0),(.int .i64 0),(.bool false),(.bool false),(.int .i64 0),(.int .i64 0),(.bool false),(.bool false),(.sl .full []),.nili,(.int .i64 0),(.int .i64 0),(.str []),(.int .i64 0),(.int .i64 0),(.bool false),(.bool false),(.int .i64 0),(.int .i64 0),(.bool false),(.bool false),(.sl .full []),.nili,(.int .i64 0),(.int .i64 0),(.str []),(.int .i64 0),(.int .i64 0),(.bool false),(.bool false),(.int .i64 0),(.int .i64 0),(.bool false),(.bool false),(.sl .full []),.nili,(.int .i64 0),(.int .i64 0),(.str []),(.int .i64 0),(.int .i64 0),(.bool false),(.bool false),(.int .i64 0),(.int .i64 0),(.bool false),(.bool false),(.sl .full []),.nili,(.int .i64 0),(.int .i64 0),(.str []),(.int .i64 0),(.int .i64 0),(.bool false),(.bool false),(.int .i64 0),(.int .i64 0),(.bool false),(.bool false),(.sl .full []),.nili,(.int .i64 0),(.int .i64 0),(.str []),(.int .i64 0),(.int .i64 0),(.bool false),(.bool false),(.int .i64 0),(.int .i64 0),(.bool false),(.bool false),(.sl .full []),.nili,(.int .i64 0),(.int .i64 0),(.str []),(.int .i64 0),(.int .i64 0),(.bool false),(.bool false),(.int .i64 0),(.int .i64 0),(.bool false),(.bool false),(.sl .full []),.nili,(.int .i64 0),(.int .i64 0),(.str []),(.int .i64 0),(.int .i64 0),(.bool false),(.bool false),(.int .i64 0),(.int .i64 0),(.bool false),(.bool false),(.sl .full []),.nili,(.int .i64 0),(.int .i64 0),(.str []),(.int .i64 0),(.int .i64 0),(.bool false),(.bool false),(.int .i64 0),(.int .i64 0),(.bool false),(.bool false),(.sl .full []),.nili,(.int .i64 0),(.int .i64 0),(.str []),(.int .i64 0),(.int .i64 0),(.bool false),(.bool false),(.int .i64 0),(.int .i64 0),(.bool false),(.bool false),(.sl .full []),.nili,(.int .i64 0),(.int .i64 0),(.str []),(.int .i64 0),(.int .i64 0),(.bool false),(.bool false),(.int .i64 0),(.int .i64 0),(.bool false),(.bool false),(.sl .full []),.nili,(.int .i64 0),(.int .i64 0),(.str []),(.int .i64 0),(.int .i64 0),(.bool false),(.bool false),(.int .i64 0),(.int .i64 0),(.bool false),(.bool false),(.sl .full []),.nili,(.int .i64 0),(.int .i64 0),(.str []),(.int .i64 0),(.int .i64 0),(.bool false),(.bool false),(.int .i64 0),(.int .i64 0),(.bool false),(.bool false),(.sl .full []),.nili,(.int .i64 0),(.int .i64 0),(.str []),(.int .i64 0),(.int .i64 0),(.bool false),(.bool false),(.int .i64 0),(.int .i64 0),(.bool false),(.bool false),(.sl .full []),.nili] []),oe 3 (.box (.t 2)),oq 1 (.mv (.t 3))]
def c10_6:ACode := .seq c10_1 (.seq (.ops [ oq 4 (.mv (.t 1)),oq 5 (.build [(.int .i64 0),(.int .i64 0),(.str [])] [(0,1,(.v (.int .i64 1))),(1,1,(.v (.int .i64 10000)))]),oq 8 (.nc (.t 4)),oe 6 (.call 33 [(.t 5)]),oe 7 (.call 28 [(.t 6)]),oq 9 (.iaa 32 13 (.t 8) (.v (.int .i64 5))),oz (.store 13 (.t 9) (.t 7))]) (.seq (.ops [ oq 10 (.mv (.t 1)),oe 11 (.call 20 [(.t 10),(.v (.int .i64 3))]),oq 12 (.bin .eql (.t 11) (.v (.str [3,1,5,1,1,160,156,1]))),oq 13 (.mv (.t 12)),⟨some 14,some (13,true),.q (.mv (.t 1)),[]⟩,⟨some 15,some (13,true),.e (.call 14 [(.t 14)]),[]⟩,⟨some 16,some (13,true),.q (.bin .eql (.t 15) (.v (.int .i64 1))),[]⟩,oq 17 (.pick (.t 13) (.t 16) (.v (.bool false))),oq 18 (.mv (.t 17)),⟨some 19,some (18,true),.q (.mv (.t 1)),[]⟩,⟨some 20,some (18,true),.e (.call 16 [(.t 19),(.v (.int .i64 0))]),[]⟩,⟨some 21,some (18,true),.q (.bin .eql (.t 20) (.v (.int .i64 3))),[]⟩,oq 22 (.pick (.t 18) (.t 21) (.v (.bool false))),oq 23 (.mv (.t 22)),⟨some 24,some (23,true),.q (.mv (.t 1)),[]⟩,⟨some 25,some (23,true),.q (.nc (.t 24)),[]⟩,⟨some 26,some (23,true),.q (.iaa 32 13 (.t 25) (.v (.int .i64 5))),[]⟩,⟨some 27,some (23,true),.q (.ld (some 13) (.t 26)),[]⟩,⟨some 28,some (23,true),.e (.call 9 [(.t 27)]),[]⟩,⟨some 29,some (23,true),.q (.bin .eql (.t 28) (.v (.str [49]))),[]⟩,oq 30 (.pick (.t 23) (.t 29) (.v (.bool false))),oq 0 (.mv (.t 30))]) .ret))
def c10_7:ACode := .seq (.ops [ oq 0 (.mv (.v (.bool false)))]) c10_6
def c10:AFn:=⟨31,[.t 0],c10_7⟩
theorem c10_ok:compF Tryz.prog Tryz.f10=some c10:=by kernel_rfl
theorem a10 {args:List AV} {σ:ASt} {R:AV->ASt->Prop} (hl:args.length<=31) (h:c10_7.wp Tryz.prog (RetQ [.t 0] R) (init args) σ):ACalls Tryz.prog 10 args σ R:=acalls_of Tryz.func10 c10_ok hl h
end Go.A
namespace Go.A
open Go.Proofs Go.Lib Go.Vint
def TC.cs (c:TC):List AV:=cellCs c.t.op (match c.t with | .mk _ n _ _ _ _=>n) (match c.t with | .mk _ _ s _ _ _=>s) (match c.t with | .mk _ _ _ a _ _=>a) (match c.t with | .mk _ _ _ _ b _=>b) (c.t.kids.map Nd.av) (voAV c.v)
theorem TC.av_cs (c:TC):c.av = .agg c.cs:=by obtain ⟨⟨op,n,s,a,b,ks⟩,v⟩:=c;rfl
theorem TC.cs_len (c:TC):c.cs.length=13:=rfl
def tileCs (T:List TC):List AV:=T.flatMap TC.cs
theorem tileCs_len (T:List TC):(tileCs T).length=T.length*13:=by
 induction T with
 | nil=>rfl
 | cons c T ih=>
   unfold tileCs at ih ⊢
   rw [List.flatMap_cons,List.length_append,ih,TC.cs_len,List.length_cons]
   omega
theorem tileCs_at {T:List TC}:∀ {i:Nat} {c:TC},T[i]? = some c->((tileCs T).drop (i*13)).take 13=c.cs:=by
 induction T with
 | nil=>intro i c h;simp at h
 | cons d T ih=>
   intro i c h
   have hl:=TC.cs_len d
   unfold tileCs at ih ⊢
   rw [List.flatMap_cons]
   cases i with
   | zero=>
     simp only [List.getElem?_cons_zero,Option.some.injEq] at h
     subst h
     rw [Nat.zero_mul,List.drop_zero,← hl,List.take_left]
   | succ i=>
     rw [List.getElem?_cons_succ] at h
     rw [show (i+1)*13=d.cs.length+i*13 by rw [hl];omega,List.drop_append]
     have e1:d.cs.drop (d.cs.length+i*13) = []:=List.drop_eq_nil_of_le (by omega)
     rw [e1,List.nil_append,Nat.add_sub_cancel_left]
     exact ih h
theorem TileAt.of {T:List TC} {p:Nat} {σ:ASt} (hl:T.length=32) (h:σ p=some (.obj (tileCs T))):TileAt T p σ:=by
 refine ⟨hl,⟨_,h⟩,fun i c hc=>?_⟩
 obtain ⟨hi,_⟩:=List.getElem?_eq_some_iff.1 hc
 have hn:=tileCs_len T
 rw [h]
 show (if i*13+13<=(tileCs T).length then some (AV.agg (((tileCs T).drop (i*13)).take 13)) else none)=_
 rw [if_pos (by omega),tileCs_at hc,TC.av_cs]
def zTC:TC:=⟨zNd,none⟩
def oneTC:TC:=⟨zNd,some (.num 10000)⟩
def oneT:List TC:=List.replicate 5 zTC ++ [oneTC]++List.replicate 26 zTC
def z416:List AV:=(List.replicate 32 (zCells .nili)).flatten
theorem z416_len:z416.length=416:=by decide +kernel
theorem soft416:deeps (z416.take 65++oneTC.cs++z416.drop 78)=tileCs oneT:=by rfl
theorem oneT_len:oneT.length=32:=by decide
theorem oneT_fine:∀ c∈oneT,c.wfine:=by
 intro c hc
 have h:c=zTC\/c=oneTC:=by
  unfold oneT at hc
  simp only [List.mem_append,List.mem_replicate,List.mem_singleton] at hc
  rcases hc with (⟨_,h⟩|h)|⟨_,h⟩
  ·exact .inl h
  ·exact .inr h
  ·exact .inl h
 rcases h with rfl|rfl
 ·exact ⟨fun h=>(by cases h),fun h=>(by cases h),trivial,fun t h=>(by cases h)⟩
 ·exact ⟨fun h=>(by cases h),fun h=>(by cases h),(show (10000:Int).natAbs<=999999999999999999 by decide),fun t h=>(by cases h)⟩
theorem oneT_count:countT oneT=1:=by decide
theorem oneT_full:fullN oneT 32 = [5]:=by decide
theorem oneT_bytes:tileB oneT 3 = [3,1,5,1,1,160,156,1]:=by
 have e:tileB oneT 3=uintB 3++risingB (natsI (fullN oneT 32))++spB oneT (fullN oneT 32):=if_pos rfl
 have b1:uintB 1 = [1]:=by rw [uintB_small (by decide)];rfl
 have b3:uintB 3 = [3]:=by rw [uintB_small (by decide)];rfl
 have b5:uintB 5 = [5]:=by rw [uintB_small (by decide)];rfl
 have bn:uintB 20000 = [160,156,1]:=by
  rw [uintB_big (by decide),uintB_big (by decide),uintB_small (by decide)]
  rfl
 have r:risingB (natsI [5])=uintB 1++uintB 5:=by
  have:risingB (natsI [5])=uintB 1++(uintB 5 ++ []):=rfl
  rw [this,List.append_nil]
 have s:spB oneT [5]=uintB 1++(uintB 1++uintB 20000):=by
  have:spB oneT [5]=(uintB 1++(uintB 1++uintB 20000)) ++ []:=rfl
  rw [this,List.append_nil]
 rw [e,oneT_full,r,s,b1,b3,b5,bn]
 rfl
theorem oneT_text:oneTC.text = [49]:=by decide +kernel
theorem one_fine:oneTC.fine:=⟨fun h=>(by cases h),fun h=>(by cases h),(show (10000:Int).natAbs<=999999999999999999 by decide),trivial,by decide +kernel⟩
theorem av20:ofP ⟨1,10000,[]⟩ = .num 10000:=by decide +kernel
theorem aw20_c1:c10_1 = .ops [⟨some 2,none,.q (.build z416 []),[]⟩,⟨some 3,none,.e (.box (.t 2)),[]⟩,⟨some 1,none,.q (.mv (.t 3)),[]⟩]:=by rfl
theorem tlawake_ok {σ:ASt} (hT:Tab σ) (hM:MaxL σ) (hU:U8 σ):ACalls Tryz.prog 10 [] σ fun v σ'=>v = .bool true/\σ'=σ:=by
 have hO:=fun (τ:ASt) (h:U8 τ)=>of_ok h ⟨1,10000,[]⟩ (by decide)
 rw [av20] at hO
 unfold plAV at hO
 dsimp only at hO
 have hP:=tplain_ok (.num 10000)
 have hPe:TC.av ⟨zNd,some (.num 10000)⟩ = .agg oneTC.cs:=rfl
 rw [hPe] at hP
 have hX:=fun (τ:ASt) (h:Tab τ) (h2:MaxL τ)=>tcText_ok h h2 oneTC one_fine
 rw [oneT_text,TC.av_cs] at hX
 have hW:=fun (τ:ASt) (p:Nat) (h:TileAt oneT p τ)=>twrite_ok h oneT_fine 3 (by decide)
 rw [oneT_bytes] at hW
 have hC:=fun (τ:ASt) (p:Nat) (h:TileAt oneT p τ)=>tcount_ok h
 rw [oneT_count] at hC
 have hC:∀ (τ:ASt) (p:Nat),TileAt oneT p τ->ACalls Tryz.prog 14 [.ptr p 0] τ fun v σ'=>v = .int .i64 1/\σ'=τ:=hC
 have hlv:leaves oneTC.cs=true:=by rfl
 have hL:=fun (τ:ASt) (p:Nat) (h:TileAt oneT p τ)=>tlayout_ok h 0
 have hL0:layT oneT 0=3:=by decide
 rw [hL0] at hL
 have hl1:=TC.cs_len oneTC
 have hl2:=z416_len
 have hs:=soft416
 have hld:∀ (τ:ASt) (p:Nat),TileAt oneT p τ->objC 65 (some 13) (kn (τ p))=some (.agg oneTC.cs):=fun τ p h=>h.cell 5 oneTC rfl
 generalize hOC:oneTC.cs=OC at *
 generalize hPV:(PV.num 10000).av=va at *
 refine a10 (by simp) ?_
 rw [c10_7.eq_1,c10_6.eq_1,aw20_c1]
 generalize z416=Z at *
 simp (disch:=first|assumption|omega|(simp only [List.length_append,List.length_cons,List.length_nil];omega)) only [go_sem,reduceCtorEq,Nat.reduceEqDiff,Nat.reduceAdd,Nat.reduceSub,Nat.reduceMul,Nat.reduceLeDiff,Int.reduceLT,Int.reduceLE,Int.reduceEq,↓reduceIte,Int.reduceNeg,Int.reduceAdd,Int.reduceSub,Int.reduceMul,true_imp_iff,forall_const,Nat.mul_one,Int.reduceToNat,Nat.reducePow,Int.reducePow,Bool.true_and,Bool.false_and,Bool.and_false]
 refine boxC_by rfl fun c1 h1=>?_
 simp (disch:=first|assumption|omega|(simp only [List.length_append,List.length_cons,List.length_nil];omega)) only [go_sem,reduceCtorEq,Nat.reduceEqDiff,Nat.reduceAdd,Nat.reduceSub,Nat.reduceMul,Nat.reduceLeDiff,Int.reduceLT,Int.reduceLE,Int.reduceEq,↓reduceIte,Int.reduceNeg,Int.reduceAdd,Int.reduceSub,Int.reduceMul,true_imp_iff,forall_const,Nat.mul_one,Int.reduceToNat,Nat.reducePow,Int.reducePow,Bool.true_and,Bool.false_and,Bool.and_false]
 refine (hO _ (U8.set hU h1)).mono ?_
 rintro v σ1 ⟨rfl,rfl⟩
 simp (disch:=first|assumption|omega|(simp only [List.length_append,List.length_cons,List.length_nil];omega)) only [go_sem,reduceCtorEq,Nat.reduceEqDiff,Nat.reduceAdd,Nat.reduceSub,Nat.reduceMul,Nat.reduceLeDiff,Int.reduceLT,Int.reduceLE,Int.reduceEq,↓reduceIte,Int.reduceNeg,Int.reduceAdd,Int.reduceSub,Int.reduceMul,true_imp_iff,forall_const,Nat.mul_one,Int.reduceToNat,Nat.reducePow,Int.reducePow,Bool.true_and,Bool.false_and,Bool.and_false]
 refine hP.use ?_
 simp (disch:=first|assumption|omega|(simp only [List.length_append,List.length_cons,List.length_nil];omega)) only [go_sem,reduceCtorEq,Nat.reduceEqDiff,Nat.reduceAdd,Nat.reduceSub,Nat.reduceMul,Nat.reduceLeDiff,Int.reduceLT,Int.reduceLE,Int.reduceEq,↓reduceIte,Int.reduceNeg,Int.reduceAdd,Int.reduceSub,Int.reduceMul,true_imp_iff,forall_const,Nat.mul_one,Int.reduceToNat,Nat.reducePow,Int.reducePow,Bool.true_and,Bool.false_and,Bool.and_false,hl1,hl2]
 refine ⟨hlv,?_⟩
 have hd:=SDrop.soft (σ:=σ.set c1 (some (.obj (Z.take 65++OC++Z.drop 78)))) (b:=c1) (ASt.set_same _ _ _)
 rw [ASt.set_set,hs] at hd
 have hTA:=TileAt.of (σ:=σ.set c1 (some (.obj (tileCs oneT)))) oneT_len (ASt.set_same _ _ _)
 have T2:=Tab.set (r:=some (.obj (tileCs oneT))) hT h1
 have M2:=MaxL.set (r:=some (.obj (tileCs oneT))) hM h1
 have dd:=Drop.set (r:=some (.obj (tileCs oneT))) h1
 refine ACalls.soft hd ?_
 clear hd
 generalize σ.set c1 (some (.obj (tileCs oneT)))=σ2 at *
 have hld:=hld _ _ hTA
 refine (hW _ _ hTA).mono ?_
 rintro r σ3 ⟨rfl,rfl⟩
 simp (disch:=first|assumption|omega|(simp only [List.length_append,List.length_cons,List.length_nil];omega)) only [go_sem,reduceCtorEq,Nat.reduceEqDiff,Nat.reduceAdd,Nat.reduceSub,Nat.reduceMul,Nat.reduceLeDiff,Int.reduceLT,Int.reduceLE,Int.reduceEq,↓reduceIte,Int.reduceNeg,Int.reduceAdd,Int.reduceSub,Int.reduceMul,true_imp_iff,forall_const,Nat.mul_one,Int.reduceToNat,Nat.reducePow,Int.reducePow,Bool.true_and,Bool.false_and,Bool.and_false]
 refine (hC _ _ hTA).mono ?_
 rintro r σ3 ⟨rfl,rfl⟩
 simp (disch:=first|assumption|omega|(simp only [List.length_append,List.length_cons,List.length_nil];omega)) only [go_sem,reduceCtorEq,Nat.reduceEqDiff,Nat.reduceAdd,Nat.reduceSub,Nat.reduceMul,Nat.reduceLeDiff,Int.reduceLT,Int.reduceLE,Int.reduceEq,↓reduceIte,Int.reduceNeg,Int.reduceAdd,Int.reduceSub,Int.reduceMul,true_imp_iff,forall_const,Nat.mul_one,Int.reduceToNat,Nat.reducePow,Int.reducePow,Bool.true_and,Bool.false_and,Bool.and_false]
 refine (hL _ _ hTA).mono ?_
 rintro r σ3 ⟨rfl,rfl⟩
 simp (disch:=first|assumption|omega|(simp only [List.length_append,List.length_cons,List.length_nil];omega)) only [go_sem,reduceCtorEq,Nat.reduceEqDiff,Nat.reduceAdd,Nat.reduceSub,Nat.reduceMul,Nat.reduceLeDiff,Int.reduceLT,Int.reduceLE,Int.reduceEq,↓reduceIte,Int.reduceNeg,Int.reduceAdd,Int.reduceSub,Int.reduceMul,true_imp_iff,forall_const,Nat.mul_one,Int.reduceToNat,Nat.reducePow,Int.reducePow,Bool.true_and,Bool.false_and,Bool.and_false,hld]
 refine (hX _ T2 M2).mono ?_
 rintro r σ3 ⟨rfl,rfl⟩
 simp (disch:=first|assumption|omega|(simp only [List.length_append,List.length_cons,List.length_nil];omega)) only [go_sem,reduceCtorEq,Nat.reduceEqDiff,Nat.reduceAdd,Nat.reduceSub,Nat.reduceMul,Nat.reduceLeDiff,Int.reduceLT,Int.reduceLE,Int.reduceEq,↓reduceIte,Int.reduceNeg,Int.reduceAdd,Int.reduceSub,Int.reduceMul,true_imp_iff,forall_const,Nat.mul_one,Int.reduceToNat,Nat.reducePow,Int.reducePow,Bool.true_and,Bool.false_and,Bool.and_false]
 exact retC_by dd (.refl _) ⟨rfl,rfl⟩
theorem typedP_le (p:Pl) (hp:p.s.length<=60):(typedP (ofP p)).length<=100000:=by
 have hg:=ofP_good p
 have ht:∀ t,ofP p = .text t->t.length<=60:=by
  intro t h
  unfold ofP at h
  repeat' split at h
  all_goals cases h
  exact hp
 generalize ofP p=v at *
 cases v with
 | text t=>
   have:=ht t rfl
   show (if inputP t = .text t then t else 39::t).length<=_
   split
   ·omega
   ·rw [List.length_cons];omega
 | num n=>
   have:=textD_len (a:=n) hg
   show (textD n).length<=_
   omega
 | blank=>decide
 | bool b=>cases b<;>decide
 | fail n=>
   have h1:1<=n/\n<=7:=hg
   have h2:n=1\/n=2\/n=3\/n=4\/n=5\/n=6\/n=7:=by omega
   rcases h2 with rfl|rfl|rfl|rfl|rfl|rfl|rfl<;>decide
theorem lcC_fine (F:List UInt8) (k n:Int) (S:List UInt8):(lcC F k n S).fine:=by
 have hz:zNd.op=0:=rfl
 refine ⟨?_,?_,ofP_good _,ofP_small _,typedP_le _ (by show (S.take 60).length<=60;rw [List.length_take];omega)⟩
 ·intro h
  show (lcT F).ok
  have h':(!decide ((lcT F).op=0))=true:=h
  unfold lcT at h' ⊢
  split
  ·rename_i he
   exact (parseR_gd he).1.1
  ·rename_i he
   rw [if_neg he,hz] at h'
   simp at h'
 ·intro h
  show (lcT F).spell.length<=_
  have h':(!decide ((lcT F).op=0))=true:=h
  unfold lcT at h' ⊢
  split
  ·rename_i he
   have h1:=nf_spell (parseR_nf he).1
   have h2:=(parseR_gd he).2
   omega
  ·rename_i he
   rw [if_neg he,hz] at h'
   simp at h'
theorem typed_nil {v:PV} (hg:v.good):typedP v = []↔v = .blank:=by
 constructor
 ·intro h
  have:=typed_law v hg
  rw [h] at this
  rw [<-this]
  decide +kernel
 ·rintro rfl
  decide
theorem text_law (c:TC) (hg:c.val.good):(c.text.head? = some 61↔c.isF=true)/\(c.text = []↔c.empty=true):=by
 have he:c.empty=(!c.isF && decide (c.val = .blank)):=by unfold TC.empty TC.isF;simp
 have hx:c.text=if c.isF=true then 61::c.t.spell else if (typedP c.val).head? = some 61 then 39::typedP c.val else typedP c.val:=rfl
 have hn:=typed_nil hg
 rw [he,hx]
 cases c.isF with
 | true=>simp
 | false=>
   by_cases h:(typedP c.val).head? = some 61
   ·have:c.val ≠ .blank:=by
     intro e
     rw [hn.2 e] at h
     cases h
    simp [h,this]
   ·simp [h,hn]
theorem TileTyped_any {σ:ASt} (hT:Tab σ) (hM:MaxL σ) (hU:U8 σ) (hV:LV σ) (m:Int) (F:List UInt8) (k n:Int) (S:List UInt8):ACalls Tryz.prog 3 [.agg [.int .i64 m,.str F,.int .i64 k,.int .i64 n,.str S]] σ fun v σ'=>v = .bool true/\σ'=σ:=by
 have hC:=fun (τ:ASt) (h:U8 τ) (h2:LV τ)=>lcell_ok h h2 m F k n S
 have hf:=lcC_fine F k n S
 have hX:=fun (τ:ASt) (h:Tab τ) (h2:MaxL τ)=>tcText_ok h h2 (lcC F k n S) hf
 have hF:=tcIsFormula_ok (lcC F k n S)
 have hE:=tcEmpty_ok (lcC F k n S)
 obtain ⟨l1,l2⟩:=text_law (lcC F k n S) hf.good
 rw [TC.av_cs] at hC hX hF hE
 have hl:=TC.cs_len (lcC F k n S)
 have hlv:leaves (lcC F k n S).cs=true:=by
  obtain ⟨t0,x0,hx0⟩:=av_iface (ofP ⟨k,n,S.take 60⟩)
  unfold lcC
  generalize ofP ⟨k,n,S.take 60⟩=v at *
  unfold TC.cs cellCs voAV
  dsimp only
  rw [hx0]
  rfl
 generalize (lcC F k n S).cs=cs at *
 generalize (lcC F k n S).text=t at *
 generalize (lcC F k n S).isF=q at *
 generalize (lcC F k n S).empty=em at *
 clear hf
 have h13:cs.take 13=cs:=List.take_of_length_le (by omega)
 refine a3 (by simp) ?_
 simp (disch:=first|assumption|omega|(simp only [List.length_append,List.length_cons,List.length_nil];omega)) only [go_sem,reduceCtorEq,Nat.reduceEqDiff,Nat.reduceAdd,Nat.reduceSub,Nat.reduceMul,Nat.reduceLeDiff,Int.reduceLT,Int.reduceLE,Int.reduceEq,↓reduceIte,Int.reduceNeg,Int.reduceAdd,Int.reduceSub,Int.reduceMul,true_imp_iff,forall_const,Nat.mul_one,Int.reduceToNat,Nat.reducePow,Int.reducePow,Bool.true_and,Bool.false_and,Bool.and_false]
 refine boxC_by rfl fun c1 h1=>?_
 simp (disch:=first|assumption|omega|(simp only [List.length_append,List.length_cons,List.length_nil];omega)) only [go_sem,reduceCtorEq,Nat.reduceEqDiff,Nat.reduceAdd,Nat.reduceSub,Nat.reduceMul,Nat.reduceLeDiff,Int.reduceLT,Int.reduceLE,Int.reduceEq,↓reduceIte,Int.reduceNeg,Int.reduceAdd,Int.reduceSub,Int.reduceMul,true_imp_iff,forall_const,Nat.mul_one,Int.reduceToNat,Nat.reducePow,Int.reducePow,Bool.true_and,Bool.false_and,Bool.and_false]
 refine (hC _ (U8.set hU h1) (lv_add20 hV h1)).mono ?_
 rintro v σ1 ⟨rfl,rfl⟩
 simp (disch:=first|assumption|omega|(simp only [List.length_append,List.length_cons,List.length_nil];omega)) only [go_sem,reduceCtorEq,Nat.reduceEqDiff,Nat.reduceAdd,Nat.reduceSub,Nat.reduceMul,Nat.reduceLeDiff,Int.reduceLT,Int.reduceLE,Int.reduceEq,↓reduceIte,Int.reduceNeg,Int.reduceAdd,Int.reduceSub,Int.reduceMul,true_imp_iff,forall_const,Nat.mul_one,Int.reduceToNat,Nat.reducePow,Int.reducePow,Bool.true_and,Bool.false_and,Bool.and_false]
 refine allocC_by fun c3 h3=>?_
 obtain ⟨n1,n2,h3'⟩:=set_none h3
 have T2:=fun r r'=>Tab.set (r:=r') (Tab.set (r:=r) hT h1) (by rw [ASt.set_ne n1];exact h3')
 have M2:=fun r r'=>MaxL.set (r:=r') (MaxL.set (r:=r) hM h1) (by rw [ASt.set_ne n1];exact h3')
 have U2:=fun r r'=>U8.set (r:=r') (U8.set (r:=r) hU h1) (by rw [ASt.set_ne n1];exact h3')
 simp (disch:=first|assumption|omega|(simp only [List.length_append,List.length_cons,List.length_nil];omega)) only [go_sem,reduceCtorEq,Nat.reduceEqDiff,Nat.reduceAdd,Nat.reduceSub,Nat.reduceMul,Nat.reduceLeDiff,Int.reduceLT,Int.reduceLE,Int.reduceEq,↓reduceIte,Int.reduceNeg,Int.reduceAdd,Int.reduceSub,Int.reduceMul,true_imp_iff,forall_const,Nat.mul_one,Int.reduceToNat,Nat.reducePow,Int.reducePow,Bool.true_and,Bool.false_and,Bool.and_false,hl,hlv,h13,ASt.set_set]
 refine (hX _ (T2 _ _) (M2 _ _)).mono ?_
 rintro v σ2 ⟨rfl,hσ2⟩
 have T3:=T2 (some (.obj [.int .i64 m,.str F,.int .i64 k,.int .i64 n,.str S])) (some (.obj cs))
 have M3:=M2 (some (.obj [.int .i64 m,.str F,.int .i64 k,.int .i64 n,.str S])) (some (.obj cs))
 have U3:=U2 (some (.obj [.int .i64 m,.str F,.int .i64 k,.int .i64 n,.str S])) (some (.obj cs))
 have d3:Drop ((σ.set c1 (some (.obj [.int .i64 m,.str F,.int .i64 k,.int .i64 n,.str S]))).set c3 (some (.obj cs))) σ:=(Drop.set (by rw [ASt.set_ne n1];exact h3')).trans (Drop.set h1)
 have hm3:σ2 c3=some (.obj cs):=by rw [hσ2,ASt.set_same]
 rw [<-hσ2] at T3 M3 U3 d3
 clear hσ2
 simp (disch:=first|assumption|omega|(simp only [List.length_append,List.length_cons,List.length_nil];omega)) only [go_sem,reduceCtorEq,Nat.reduceEqDiff,Nat.reduceAdd,Nat.reduceSub,Nat.reduceMul,Nat.reduceLeDiff,Int.reduceLT,Int.reduceLE,Int.reduceEq,↓reduceIte,Int.reduceNeg,Int.reduceAdd,Int.reduceSub,Int.reduceMul,true_imp_iff,forall_const,Nat.mul_one,Int.reduceToNat,Nat.reducePow,Int.reducePow,Bool.true_and,Bool.false_and,Bool.and_false]
 refine (tlawake_ok T3 M3 U3).mono ?_
 rintro v σ3 ⟨rfl,rfl⟩
 cases t with
 | nil=>
   have hq:q=false:=by
    cases q with
    | false=>rfl
    | true=>have:=l1.2 rfl;cases this
   have hem:em=true:=l2.1 rfl
   subst hq
   subst hem
   simp (disch:=first|assumption|omega|(simp only [List.length_append,List.length_cons,List.length_nil];omega)) only [go_sem,reduceCtorEq,Nat.reduceEqDiff,Nat.reduceAdd,Nat.reduceSub,Nat.reduceMul,Nat.reduceLeDiff,Int.reduceLT,Int.reduceLE,Int.reduceEq,↓reduceIte,Int.reduceNeg,Int.reduceAdd,Int.reduceSub,Int.reduceMul,true_imp_iff,forall_const,Nat.mul_one,Int.reduceToNat,Nat.reducePow,Int.reducePow,Bool.true_and,Bool.false_and,Bool.and_false,hm3,hl,h13]
   refine hF.use ?_
   simp (disch:=first|assumption|omega|(simp only [List.length_append,List.length_cons,List.length_nil];omega)) only [go_sem,reduceCtorEq,Nat.reduceEqDiff,Nat.reduceAdd,Nat.reduceSub,Nat.reduceMul,Nat.reduceLeDiff,Int.reduceLT,Int.reduceLE,Int.reduceEq,↓reduceIte,Int.reduceNeg,Int.reduceAdd,Int.reduceSub,Int.reduceMul,true_imp_iff,forall_const,Nat.mul_one,Int.reduceToNat,Nat.reducePow,Int.reducePow,Bool.true_and,Bool.false_and,Bool.and_false,hm3,hl,h13]
   refine hE.use ?_
   simp (disch:=first|assumption|omega|(simp only [List.length_append,List.length_cons,List.length_nil];omega)) only [go_sem,reduceCtorEq,Nat.reduceEqDiff,Nat.reduceAdd,Nat.reduceSub,Nat.reduceMul,Nat.reduceLeDiff,Int.reduceLT,Int.reduceLE,Int.reduceEq,↓reduceIte,Int.reduceNeg,Int.reduceAdd,Int.reduceSub,Int.reduceMul,true_imp_iff,forall_const,Nat.mul_one,Int.reduceToNat,Nat.reducePow,Int.reducePow,Bool.true_and,Bool.false_and,Bool.and_false,hm3,hl,h13]
   exact retC_by d3 (.refl _) ⟨rfl,rfl⟩
 | cons d t=>
   have hem:em=false:=by
    cases em with
    | false=>rfl
    | true=>have:=l2.2 rfl;cases this
   subst hem
   have hpos:(0:Int)<((d::t).length:Int):=by simp only [List.length_cons];omega
   have hx:(d::t)[0]? = some d:=rfl
   have e0:((0:Int)).toNat=0:=rfl
   by_cases h61:d=61
   ·subst h61
    have hq:q=true:=l1.1 rfl
    subst hq
    have c61:((61:UInt8).toNat:Int)=61:=rfl
    simp (disch:=first|assumption|omega|(simp only [List.length_append,List.length_cons,List.length_nil];omega)) only [go_sem,reduceCtorEq,Nat.reduceEqDiff,Nat.reduceAdd,Nat.reduceSub,Nat.reduceMul,Nat.reduceLeDiff,Int.reduceLT,Int.reduceLE,Int.reduceEq,↓reduceIte,Int.reduceNeg,Int.reduceAdd,Int.reduceSub,Int.reduceMul,true_imp_iff,forall_const,Nat.mul_one,Int.reduceToNat,Nat.reducePow,Int.reducePow,Bool.true_and,Bool.false_and,Bool.and_false,hm3,hl,h13,hpos,hx,c61]
    refine hF.use ?_
    simp (disch:=first|assumption|omega|(simp only [List.length_append,List.length_cons,List.length_nil];omega)) only [go_sem,reduceCtorEq,Nat.reduceEqDiff,Nat.reduceAdd,Nat.reduceSub,Nat.reduceMul,Nat.reduceLeDiff,Int.reduceLT,Int.reduceLE,Int.reduceEq,↓reduceIte,Int.reduceNeg,Int.reduceAdd,Int.reduceSub,Int.reduceMul,true_imp_iff,forall_const,Nat.mul_one,Int.reduceToNat,Nat.reducePow,Int.reducePow,Bool.true_and,Bool.false_and,Bool.and_false,hm3,hl,h13]
    refine hE.use ?_
    simp (disch:=first|assumption|omega|(simp only [List.length_append,List.length_cons,List.length_nil];omega)) only [go_sem,reduceCtorEq,Nat.reduceEqDiff,Nat.reduceAdd,Nat.reduceSub,Nat.reduceMul,Nat.reduceLeDiff,Int.reduceLT,Int.reduceLE,Int.reduceEq,↓reduceIte,Int.reduceNeg,Int.reduceAdd,Int.reduceSub,Int.reduceMul,true_imp_iff,forall_const,Nat.mul_one,Int.reduceToNat,Nat.reducePow,Int.reducePow,Bool.true_and,Bool.false_and,Bool.and_false,hm3,hl,h13]
    exact retC_by d3 (.refl _) ⟨rfl,rfl⟩
   ·have hq:q=false:=by
     cases q with
     | false=>rfl
     | true=>have:=l1.2 rfl;simp at this;exact absurd this h61
    subst hq
    have c61:¬ ((d.toNat:Int)=61):=by
     intro h
     apply h61
     apply UInt8.toNat_inj.1
     have:d.toNat=61:=by omega
     rw [this]
     rfl
    simp (disch:=first|assumption|omega|(simp only [List.length_append,List.length_cons,List.length_nil];omega)) only [go_sem,reduceCtorEq,Nat.reduceEqDiff,Nat.reduceAdd,Nat.reduceSub,Nat.reduceMul,Nat.reduceLeDiff,Int.reduceLT,Int.reduceLE,Int.reduceEq,↓reduceIte,Int.reduceNeg,Int.reduceAdd,Int.reduceSub,Int.reduceMul,true_imp_iff,forall_const,Nat.mul_one,Int.reduceToNat,Nat.reducePow,Int.reducePow,Bool.true_and,Bool.false_and,Bool.and_false,hm3,hl,h13,hpos,hx,c61]
    refine hF.use ?_
    simp (disch:=first|assumption|omega|(simp only [List.length_append,List.length_cons,List.length_nil];omega)) only [go_sem,reduceCtorEq,Nat.reduceEqDiff,Nat.reduceAdd,Nat.reduceSub,Nat.reduceMul,Nat.reduceLeDiff,Int.reduceLT,Int.reduceLE,Int.reduceEq,↓reduceIte,Int.reduceNeg,Int.reduceAdd,Int.reduceSub,Int.reduceMul,true_imp_iff,forall_const,Nat.mul_one,Int.reduceToNat,Nat.reducePow,Int.reducePow,Bool.true_and,Bool.false_and,Bool.and_false,hm3,hl,h13]
    refine hE.use ?_
    simp (disch:=first|assumption|omega|(simp only [List.length_append,List.length_cons,List.length_nil];omega)) only [go_sem,reduceCtorEq,Nat.reduceEqDiff,Nat.reduceAdd,Nat.reduceSub,Nat.reduceMul,Nat.reduceLeDiff,Int.reduceLT,Int.reduceLE,Int.reduceEq,↓reduceIte,Int.reduceNeg,Int.reduceAdd,Int.reduceSub,Int.reduceMul,true_imp_iff,forall_const,Nat.mul_one,Int.reduceToNat,Nat.reducePow,Int.reducePow,Bool.true_and,Bool.false_and,Bool.and_false,hm3,hl,h13]
    exact retC_by d3 (.refl _) ⟨rfl,rfl⟩
end Go.A
namespace Go.Proofs.YtfnhdjigeedieaaGreatDoor
open Go Go.ChangeShapes Go.WideShapes Go.ChangeAt Go.RowKit Go.A Go.Lib Go.Shelf
theorem row_own:ownKnob Tryz.prog.godebug=none:=by kernel_rfl
theorem row_laid:laidOutB Tryz.prog=true:=by kernel_rfl
theorem first_eq:Rows.laid_unicode_utf8_first=firstData:=by kernel_rfl
theorem acc_eq:(Rows.laid_unicode_utf8_acceptRanges:DataW Unit)=acceptData:=by kernel_rfl
theorem u8_extra:U8Extra Tryz.prog Tryz.lays260_ren:=⟨by kernel_rfl,by kernel_rfl,by kernel_rfl,by kernel_rfl,by kernel_rfl,by kernel_rfl,by kernel_rfl⟩
theorem var_size {P:Program} {w:World} {n:String} {d:DataW Unit} (h:VarReads P w n d) {g:Nat} (hg:P.globalNamed n=some g) {t e:TypeId} {k:Nat} (hty:(P.globals[g]?).map (·.type)=some t) (ht:P.underlying t=some (.array k e)) :
  ∃ cs T fr,w.heap[g]? = some (.cells cs T fr)/\cs.size=P.cellsOf t:=by
 obtain ⟨g',t',cs,fuel,p,hg',hty',hvar,hd⟩:=h
 obtain rfl:=Option.some.inj (hg.symm.trans hg')
 obtain rfl:=Option.some.inj (hty.symm.trans hty')
 have hlen:cs.toList.length=P.cellsOf t:=by
  cases fuel with
  | zero=>simp [DataW.trod] at hd
  | succ fuel=>
    simp only [DataW.trod,ht] at hd
    split at hd
    ·assumption
    ·cases hd
 unfold World.var? at hvar
 rw [hg,Option.bind_some] at hvar
 split at hvar
 ·rename_i cs' T fr hheap
  injection hvar with hvar
  subst hvar
  exact ⟨_,_,_,hheap,by simpa using hlen⟩
 ·cases hvar
theorem ints_reps {σ:ASt} {w:World} {k:IntKind}:∀ zs:List Int,Reps σ w (zs.map (AV.int k)) (zs.map (Value.int k))
 | [] => .nil
 | z::zs => .cons (.int k z) (ints_reps zs)
theorem fix_ok {σ:ASt} {W:World} {b:Nat} {zs:List Int} (hs:σ b=some (.fix (zs.map (AV.int .u8)))) {cs:Array Value} {T:TypeId} {fr:Nat×Nat} (hh:W.heap[b]? = some (.cells cs T fr)) (hsz:cs.size=zs.length)
  (hc:∀ j z,zs[j]? = some z->W.cell? ⟨b,j,none⟩=some (.int .u8 z)):RoleOk σ W b (.fix (zs.map (AV.int .u8))):=by
 have hlt:b<W.heap.size:=(Array.getElem?_eq_some_iff.1 hh).1
 refine ⟨At.mk' (ints_reps _) (fun j _=>⟨hlt,.inr (.inl ⟨_,hs⟩)⟩) (fun j v hj=>?_),cs,T,fr,hh,by simpa using hsz⟩
 rw [List.getElem?_map] at hj
 obtain ⟨z,hz,rfl⟩:=Option.map_eq_some_iff.1 hj
 rw [Nat.zero_add]
 exact hc j z hz
def stOf:List (Nat×List AV)->ASt
 | [],_=>none
 | p::ps,b=>if b=p.1 then some (.fix p.2) else stOf ps b
theorem stOf_fix:∀ {ps:List (Nat×List AV)} {b:Nat} {r:Role},stOf ps b=some r->∃ l,r = .fix l
 | [],_,_,h=>by cases h
 | p::ps,b,r,h=>by
   simp only [stOf] at h
   split at h
   ·injection h with h;exact ⟨_,h.symm⟩
   ·exact stOf_fix h
theorem stOf_mem:∀ {ps:List (Nat×List AV)} {b:Nat} {r:Role},stOf ps b=some r->∃ l,(b,l)∈ps/\r = .fix l
 | [],_,_,h=>by cases h
 | p::ps,b,r,h=>by
   simp only [stOf] at h
   split at h
   ·rename_i hb
    injection h with h
    subst hb
    exact ⟨p.2,List.mem_cons_self,h.symm⟩
   ·obtain ⟨l,hl,he⟩:=stOf_mem h
    exact ⟨l,List.mem_cons_of_mem _ hl,he⟩
theorem still_fix {σ:ASt} (hfx:∀ b r,σ b=some r->∃ l,r = .fix l) {w:World} {b o:Nat} (h:b<w.heap.size):Still σ w b o:=by
 refine ⟨h,?_⟩
 cases hb:σ b with
 | none=>exact .inl rfl
 | some r=>obtain ⟨l,rfl⟩:=hfx b r hb;exact .inr (.inl ⟨_,rfl⟩)
end Go.Proofs.YtfnhdjigeedieaaGreatDoor
namespace Go.A
section
variable {σ:ASt} {w:World}
theorem Still.fixed (hfx:∀ b r,σ b=some r->∃ l,r = .fix l) {b o:Nat} (h:Still noRole w b o):Still σ w b o:=by
 refine ⟨h.1,?_⟩
 cases hb:σ b with
 | none=>exact .inl rfl
 | some r=>obtain ⟨l,rfl⟩:=hfx b r hb;exact .inr (.inl ⟨_,rfl⟩)
theorem Stands.fixed (hfx:∀ b r,σ b=some r->∃ l,r = .fix l) (b:Nat):Stands σ b:=by
 refine ⟨fun cs h=>?_,fun l p h=>?_,fun T cs h=>?_⟩<;>(obtain ⟨l,hl⟩:=hfx b _ h;cases hl)
theorem SK.ok_fixed (hfx:∀ b r,σ b=some r->∃ l,r = .fix l) {k:SK} {b o n c sz:Nat} (h:k.ok noRole w b o n c sz):k.ok σ w b o n c sz:=by
 cases k with
 | shr=>trivial
 | full=>exact h
 | tok t s T=>exact ⟨h.1,h.2.1,h.2.2.1,h.2.2.2.1,Stands.fixed hfx b⟩
mutual
theorem Rep.fixed (hfx:∀ b r,σ b=some r->∃ l,r = .fix l):∀ {a:AV} {v:Value},Rep noRole w a v->Rep σ w a v
 | _,_,.any v => .any v
 | _,_,.bool b => .bool b
 | _,_,.int k n => .int k n
 | _,_,.str l => .str l
 | _,_,.ptr b o => .ptr b o
 | _,_,.imm h1 => .imm (h1.fixed hfx)
 | _,_,.nilp => .nilp
 | _,_,.slE A c => .slE A c
 | _,_,.slN => .slN
 | _,_,.sl h1 h2 h3 h4 h5 => .sl (h1.fixed hfx) h2 h3 (SK.ok_fixed hfx h4) h5
 | _,_,.msl b o n c => .msl b o n c
 | _,_,.agg h1 => .agg (h1.fixed hfx)
 | _,_,.tuple h1 => .tuple (h1.fixed hfx)
 | _,_,.iface h1 => .iface (h1.fixed hfx)
 | _,_,.nili => .nili
 | _,_,.func h1 h2 => .func (h1.fixed hfx) (h2.fixed hfx)
 | _,_,.nilf => .nilf
theorem Reps.fixed (hfx:∀ b r,σ b=some r->∃ l,r = .fix l):∀ {avs:List AV} {vs:List Value},Reps noRole w avs vs->Reps σ w avs vs
 | _,_,.nil => .nil
 | _,_,.cons h1 h2 => .cons (h1.fixed hfx) (h2.fixed hfx)
theorem At.fixed (hfx:∀ b r,σ b=some r->∃ l,r = .fix l):∀ {b o:Nat} {avs:List AV},At noRole w b o avs->At σ w b o avs
 | _,_,_,.nil b o => .nil b o
 | _,_,_,.cons h1 h2 h3 h4 => .cons (h1.fixed hfx) h2 (h3.fixed hfx) (h4.fixed hfx)
theorem Row.fixed (hfx:∀ b r,σ b=some r->∃ l,r = .fix l):∀ {b o sz:Nat} {avs:List AV},Row noRole w b o sz avs->Row σ w b o sz avs
 | _,_,_,_,.nil b o sz => .nil b o sz
 | _,_,_,_,.cons h1 h2 h3 => .cons h1 (h2.fixed hfx) (h3.fixed hfx)
end
end
end Go.A
namespace Go.Proofs.YtfnhdjigeedieaaGreatDoor
open Go Go.ChangeShapes Go.WideShapes Go.ChangeAt Go.RowKit Go.A Go.Lib Go.Shelf
theorem u8_roles {σ : ASt} {W : World} (h3 : VarReads Tryz.prog W "unicode/utf8.first" firstData) (h4 : VarReads Tryz.prog W "unicode/utf8.acceptRanges" acceptData) :
  (σ 1=some (.fix (firstTab.map (AV.int .u8)))->RoleOk σ W 1 (.fix (firstTab.map (AV.int .u8))))/\(σ 2=some (.fix (accTab.map (AV.int .u8)))->RoleOk σ W 2 (.fix (accTab.map (AV.int .u8)))):=by
 have hT:=utf8Tabs_of_reads (ρ:=Tryz.lays260_ren) Tryz.lays260 u8_extra h3 h4
 obtain ⟨hT1,hT2⟩:=hT
 have hT1:∀ c,c<256->W.cell? ⟨1,c,none⟩=some (.int .u8 (firstT c)):=hT1
 have hT2:∀ i,i<16->W.cell? ⟨2,2*i,none⟩=some (.int .u8 (accLo i))/\W.cell? ⟨2,2*i+1,none⟩=some (.int .u8 (accHi i)):=hT2
 constructor
 ·intro hs
  obtain ⟨cs,T,fr,hh,hsz⟩:=var_size h3 (g:=1) (by kernel_rfl) u8_extra.y3 (Tryz.lays260.t119)
  refine fix_ok hs hh (hsz.trans (by kernel_rfl)) fun j z hj=>?_
  have hl:=(List.getElem?_eq_some_iff.1 hj).1
  simp only [firstTab,List.length_map,List.length_range] at hl
  simp only [firstTab,List.getElem?_map,List.getElem?_range hl,Option.map_some,Option.some.injEq] at hj
  subst hj
  exact hT1 j hl
 ·intro hs
  obtain ⟨cs,T,fr,hh,hsz⟩:=var_size h4 (g:=2) (by kernel_rfl) u8_extra.y4 (Tryz.lays260.t139)
  refine fix_ok hs hh (hsz.trans (by kernel_rfl)) fun j z hj=>?_
  have hl:=(List.getElem?_eq_some_iff.1 hj).1
  have key:∀ j,j<32->accTab[j]? = some (if j % 2=0 then (accLo (j / 2):Int) else accHi (j / 2)):=by decide
  have hl:j<32:=hl
  rw [key j hl] at hj
  injection hj with hj
  subst hj
  obtain ⟨g1,g2⟩:=hT2 (j / 2) (by omega)
  split
  ·rw [show 2*(j / 2)=j by omega] at g1;exact g1
  ·rw [show 2*(j / 2)+1=j by omega] at g2;exact g2
theorem pow_role {σ : ASt} {W : World} (hfx : ∀ b r, σ b = some r → ∃ l, r = .fix l) (h3 : VarReads Tryz.prog W "internal/strconv.uint64pow10" (Lib.tabData .u64 Lib.pow10Tab)) :
  RoleOk σ W 5 (.fix (Lib.pow10Tab.map (AV.int .u64))):=by
 obtain ⟨g',t',cs,fuel,p,hg',ht',hvar,hd⟩:=h3
 obtain rfl := Option.some.inj ((show Tryz.prog.globalNamed "internal/strconv.uint64pow10" = some 5 by kernel_rfl).symm.trans hg')
 obtain rfl:=Option.some.inj ((show (Tryz.prog.globals[5]?).map (·.type)=some 273 by kernel_rfl).symm.trans ht')
 have hcs:=cells_of_tab (n:=20) (e:=94) (k := .u64) (by kernel_rfl) (by kernel_rfl) (by kernel_rfl) (by kernel_rfl) hd
 unfold World.var? at hvar
 rw [show Tryz.prog.globalNamed "internal/strconv.uint64pow10" = some 5 by kernel_rfl, Option.bind_some] at hvar
 split at hvar
 ·rename_i cs' T fr hheap
  injection hvar with hvar
  have hlt:5<W.heap.size:=(Array.getElem?_eq_some_iff.1 hheap).1
  have he:cs'=(Lib.pow10Tab.map fun z=>Value.int .u64 z).toArray:=by rw [hvar];exact Array.ext' (by simpa using hcs)
  refine ⟨At.mk' (ints_reps _) (fun j _=>still_fix hfx hlt) (fun j v hj=>?_),cs',T,fr,hheap,by rw [he];simp⟩
  simp only [World.cell?,hheap,Nat.zero_add,he]
  simpa using hj
 ·cases hvar
end Go.Proofs.YtfnhdjigeedieaaGreatDoor
namespace Go.Proofs.YtfnhdjigeedieaaGreatDoor
open Go Go.ChangeShapes Go.WideShapes Go.ChangeAt Go.RowKit Go.A Go.Lib Go.Shelf
def vPs:List (Nat×List AV) := [(1,firstTab.map (AV.int .u8)),(2,accTab.map (AV.int .u8)),(5,Lib.pow10Tab.map (AV.int .u64))]
def vSt:ASt:=stOf vPs
end Go.Proofs.YtfnhdjigeedieaaGreatDoor
namespace Go
variable {H:Type} {enc:TypeId×Value->H}
theorem A.returnsInHanded_and_shaped {a:Assume} {C:Checked} {os:Os} {f:FuncId} {fn:Func} {s:ChangeSpec} {conds:List PathCond} {apart fresh handsOn again:Bool} {X:World->Array Value->Prop}
  (hX:∀ (w w':World) (args:Array Value),w.heap=w'.heap->X w args->X w' args)
  (own:ownKnob C.prog.godebug=none) (started:os.Started) (noInit:C.prog.inits.idxOf? f=none) (hfn:C.prog.funcs[f]? = some fn)
  (witness:∃ (w:World) (tape:Tape) (i:Input),w.os=os/\(w.forCall tape i).Shaped C.prog/\i.vars = []/\Input.okWide C.prog (w.forCall tape i) .any w.heap.size f i ∧
   ((s.pre enc C.prog fn conds apart (w.forCall tape i).memory i.args/\X (w.forCall tape i).memory i.args)/\sizedMet enc C.prog fn (OpenSpec.ofChange s) apart (w.forCall tape i).memory i.args)/\a.holds C.prog (lone (Frame.enter C.prog f i.args .normal) [] (w.forCall tape i)))
  (contract:∀ (W:World) (base:Nat) (args:Array Value) (ds gs:List (DataW H)) (before:List MemPlace),
   (∀ (j:Nat) t v,fn.params[j]? = some t->args[j]? = some v->Value.okWide C.prog W .any base t v) →
   DataW.Whole enc C.prog fn.params.toList s.vars apart W args.toList ds gs before →
   W.ShapedOpen C.prog->X W args →
   Calls C.prog f args W fun e W'=>∃ v,e = .returned v/\s.post enc C.prog fn apart fresh handsOn again W args v W') :
  ReturnsInHanded a C os f .any (fun w args=>(s.pre enc C.prog fn conds apart w args/\X w args)/\sizedMet enc C.prog fn (OpenSpec.ofChange s) apart w args) (s.post enc C.prog fn apart fresh handsOn again):=by
 refine returnsInHanded_of_calls own started noInit witness ?_
 intro w tape i _ hsh _ hok hpre hholds
 obtain ⟨_,_,_,fn',hfn',_,_,_,_,hval⟩:=hok
 have e:fn'=fn:=Option.some.inj (hfn'.symm.trans hfn)
 subst e
 obtain ⟨⟨⟨ds,gs,before,hw,hc⟩,hx⟩,hz⟩:=hpre
 have hw':=DataW.Whole.of_heap (w':=w.forCall tape i) (by rfl) hw
 refine (contract (w.forCall tape i) w.heap.size i.args ds gs before hval hw' hsh (hX _ _ _ (by rfl) hx)).mono fun e W' ⟨v,he,hp⟩=>?_
 subst he
 exact ChangeSpec.post_blind hp
end Go
namespace Go.Proofs.YtfnhdjigeedieaaGreatDoor
open Go Go.ChangeShapes Go.WideShapes Go.ChangeAt Go.RowKit Go.A Go.Lib Go.Shelf
def wSt (m:Int):ASt:=fun b=>if b=4 then some (.fix ([m].map (AV.int .i64))) else vSt b
theorem wSt_fix {m:Int} {b:Nat} {r:Role} (h:wSt m b=some r):∃ l,r = .fix l:=by
 unfold wSt at h
 split at h
 ·injection h with h;exact ⟨_,h.symm⟩
 ·exact stOf_fix h
end Go.Proofs.YtfnhdjigeedieaaGreatDoor
namespace Go.Proofs.YtfnhdjigeedieaaGreatDoor
open Go Go.ChangeShapes Go.WideShapes Go.ChangeAt Go.RowKit Go.A Go.Lib Go.Shelf
theorem strs_trod {H:Type} {enc:TypeId×Value->H} {P:Program} {w:World} {base:Nat} {spare:Nat->Bool} {held:Bool} {fuel:Nat} {t e:TypeId} {cs:List Value} {l:List (List UInt8)} {m:List MemPlace}
  (ht:P.underlying t=some (.slice e)) (he:P.underlying e=some .string) (hc:P.cellsOf e=1) (hl:0<l.length)
  (hd:DataW.trod enc P w base spare held fuel t cs=some (.slice (l.map fun s => .lit (.string s)) [],m)) :
  ∃ R o cap,cs = [.slice (some ⟨R,o,none⟩) l.length cap]/\l.length<=cap/\∀ j s,l[j]? = some s->w.cell? ⟨R,o+j,none⟩=some (.string ⟨⟨s⟩⟩):=by
 rcases DataW.trod_slice ht hd with ⟨_,hx⟩|⟨a,len,cap,el,rs,k,rfl,hcs,hx,_,hlc,_,hel,helem,hsp,_⟩
 ·cases hx
 have e0:=congrArg Prod.fst hx
 simp only [DataW.slice.injEq] at e0
 obtain ⟨eE,eR⟩:=e0
 have hlen:len=l.length:=by
  have:=congrArg List.length eE
  simp at this
  omega
 have hcell:∀ i z,l[i]? = some z->w.cell? (a.add i)=some (.string ⟨⟨z⟩⟩):=by
  intro i z hiz
  have hi:i<l.length:=(List.getElem?_eq_some_iff.1 hiz).1
  have h1:=helem i (by omega)
  rw [hc] at h1
  obtain ⟨b, hb⟩ : ∃ b, el[i]? = some b := ⟨el[i]'(by omega), List.getElem?_eq_getElem (by omega)⟩
  rw [hb] at h1
  obtain ⟨ce,hce,hte⟩:=Option.bind_eq_some_iff.1 h1
  obtain ⟨z',hz,hbz,_⟩:=DataW.trod_string he hte
  have hb1:b.1 = .lit (.string z):=by
   have:=congrArg (·[i]?) eE
   simp only [List.getElem?_map,hiz,hb,Option.map_some,Option.some.injEq] at this
   exact this.symm
  rw [hbz] at hb1
  simp only [DataW.lit.injEq,Lit.string.injEq] at hb1
  obtain ⟨_,_,hcc⟩:=World.cells?_some hce
  have:=hcc 0 (by omega)
  rw [hz] at this
  simp only [Nat.mul_one] at this
  have e1:(a.add i).add 0=a.add i:=by simp [Addr.add]
  rw [e1] at this
  rw [this,← hb1]
  rfl
 obtain ⟨z0,hz0⟩:∃ z,l[0]? = some z:=⟨l[0],List.getElem?_eq_getElem hl⟩
 obtain ⟨R,o,sR⟩:=a
 obtain rfl:sR=none:=by
  have h00:=hcell 0 z0 hz0
  have:(Addr.add ⟨R,o,sR⟩ 0)=⟨R,o,sR⟩:=by simp [Addr.add]
  rw [this] at h00
  exact Go.Proofs.cell_spot h00
 exact ⟨R,o,cap,by rw [hcs,hlen],by omega,fun j s hj=>by have:=hcell j s hj;rwa [Addr.add_lit] at this⟩
theorem block_lt {w:World} {R o:Nat} {s:Option Nat} {v:Value} (h:w.cell? ⟨R,o,none⟩=some v):R<w.heap.size:=by
 refine Nat.lt_of_not_le fun hge=>?_
 simp [World.cell?,Array.getElem?_eq_none hge] at h
theorem strs_row {σ:ASt} {w:World} {b:Nat} (hst:∀ o,Still σ w b o):∀ (zs:List (List UInt8)) (o:Nat),(∀ j z,zs[j]? = some z->w.cell? ⟨b,o+j,none⟩=some (.string ⟨⟨z⟩⟩))->Row σ w b o 1 (zs.map AV.str)
 | [],o,_ => .nil _ _ _
 | z::zs,o,h => .cons rfl (.cons (hst o) (h 0 z rfl) (.str z) (.nil _ _)) (strs_row hst zs (o+1) fun j z' hj=>by
   have:=h (j+1) z' (by simpa using hj)
   rwa [show o+(j+1)=o+1+j by omega] at this)
theorem strss_row {σ:ASt} {w:World} {b:Nat} (hst:∀ o,Still σ w b o):∀ (zs:List (List (List UInt8))) (o:Nat),
  (∀ j z,zs[j]? = some z->∃ v,w.cell? ⟨b,o+j,none⟩=some v/\Rep σ w (.sl .shr (z.map AV.str)) v)->Row σ w b o 1 (zs.map fun l=>AV.sl .shr (l.map AV.str))
 | [],o,_ => .nil _ _ _
 | z::zs,o,h=>by
   obtain ⟨v,hv,hr⟩:=h 0 z rfl
   exact .cons rfl (.cons (hst o) hv hr (.nil _ _)) (strss_row hst zs (o+1) fun j z' hj=>by
    have:=h (j+1) z' (by simpa using hj)
    rwa [show o+(j+1)=o+1+j by omega] at this)
theorem levels_role {σ : ASt} {W : World} (hfx : ∀ b r, σ b = some r → ∃ l, r = .fix l) (h : VarReads Tryz.prog W "tabular/parse.levels" (.slice (levelsL.map fun l => .slice (l.map fun s => .lit (.string s)) []) [])) :
  RoleOk σ W 0 (.fix [lvAV]):=by
 obtain ⟨g',t',cs,fuel,p,hg,hty,hvar,hd⟩:=h
 obtain rfl := Option.some.inj ((show Tryz.prog.globalNamed "tabular/parse.levels" = some 0 by kernel_rfl).symm.trans hg)
 obtain rfl:=Option.some.inj ((show (Tryz.prog.globals[0]?).map (·.type)=some 186 by kernel_rfl).symm.trans hty)
 have ht:Tryz.prog.underlying 186=some (.slice 72):=by kernel_rfl
 have ht2:Tryz.prog.underlying 72=some (.slice 9):=by kernel_rfl
 have he:Tryz.prog.underlying 9=some .string:=by kernel_rfl
 have hc:Tryz.prog.cellsOf 72=1:=by kernel_rfl
 have hc2:Tryz.prog.cellsOf 9=1:=by kernel_rfl
 have hpos:∀ (j:Nat) (z:List (List UInt8)),levelsL[j]? = some z->0<z.length:=by
  intro j z hj
  match j,hj with
  | 0,hj|1,hj|2,hj|3,hj|4,hj=>injection hj with hj;subst hj;decide
 rcases DataW.trod_slice ht hd with ⟨_,hx⟩|⟨a,len,cap,el,rs,k,rfl,hcs,hx,_,hlc,_,hel,helem,hsp,_⟩
 ·cases hx
 have e0:=congrArg Prod.fst hx
 simp only [DataW.slice.injEq] at e0
 obtain ⟨eE,eR⟩:=e0
 have hlen:len=levelsL.length:=by
  have:=congrArg List.length eE
  simp at this
  omega
 have hcell:∀ i z,levelsL[i]? = some z->∃ v,W.cell? (a.add i)=some v/\Rep σ W (.sl .shr (z.map AV.str)) v:=by
  intro i z hiz
  have hi:i<levelsL.length:=(List.getElem?_eq_some_iff.1 hiz).1
  have h1:=helem i (by omega)
  rw [hc] at h1
  obtain ⟨b, hb⟩ : ∃ b, el[i]? = some b := ⟨el[i]'(by omega), List.getElem?_eq_getElem (by omega)⟩
  rw [hb] at h1
  obtain ⟨ce,hce,hte⟩:=Option.bind_eq_some_iff.1 h1
  have hb1:b.1 = .slice (z.map fun s => .lit (.string s)) []:=by
   have:=congrArg (·[i]?) eE
   simp only [List.getElem?_map,hiz,hb,Option.map_some,Option.some.injEq] at this
   exact this.symm
  obtain ⟨b1,b2⟩:=b
  dsimp only at hb1
  subst hb1
  obtain ⟨R,o,cap',rfl,hle,hcells⟩:=strs_trod ht2 he hc2 (hpos i z hiz) hte
  obtain ⟨_,_,hcc⟩:=World.cells?_some hce
  have:=hcc 0 (by omega)
  simp only [Nat.mul_one] at this
  have e1:(a.add i).add 0=a.add i:=by simp [Addr.add]
  rw [e1] at this
  obtain ⟨z0, hz0⟩ : ∃ z0, z[0]? = some z0 := ⟨z[0]'(hpos i z hiz), List.getElem?_eq_getElem (hpos i z hiz)⟩
  have hR:=block_lt (s:=none) (hcells 0 z0 hz0)
  exact ⟨_,this,.sl (sz:=1) (strs_row (fun o=>still_fix hfx hR) z o hcells) (by simp) hle trivial hR⟩
 obtain ⟨R,o,sR⟩:=a
 obtain ⟨v0,h00,_⟩:=hcell 0 [[61],[60,62],[60],[60,61],[62],[62,61]] rfl
 obtain rfl:sR=none:=by
  have:(Addr.add ⟨R,o,sR⟩ 0)=⟨R,o,sR⟩:=by simp [Addr.add]
  rw [this] at h00
  exact Go.Proofs.cell_spot h00
 have hR:R<W.heap.size:=by
  have:(Addr.add ⟨R,o,none⟩ 0)=⟨R,o,none⟩:=by simp [Addr.add]
  rw [this] at h00
  exact block_lt (s:=none) h00
 have hrow:=strss_row (fun o=>still_fix hfx hR) levelsL o fun j z hj=>by
  obtain ⟨v,hv,hr⟩:=hcell j z hj
  rw [Addr.add_lit] at hv
  exact ⟨v,hv,hr⟩
 unfold World.var? at hvar
 rw [hg,Option.bind_some] at hvar
 split at hvar
 ·rename_i cs' T fr hheap
  injection hvar with hvar
  subst hvar
  have hcs2:cs' = #[.slice (some ⟨R,o,none⟩) levelsL.length cap]:=by
   rw [<-hlen]
   exact Array.ext' (by simpa using hcs)
  subst hcs2
  have hlt:0<W.heap.size:=(Array.getElem?_eq_some_iff.1 hheap).1
  have hce:W.cell? ⟨0,0,none⟩=some (.slice (some ⟨R,o,none⟩) levelsL.length cap):=by simp [World.cell?,hheap]
  have hrep:Rep σ W lvAV (.slice (some ⟨R,o,none⟩) levelsL.length cap) := .sl (sz:=1) hrow (by simp) (by omega) trivial hR
  exact ⟨.cons (still_fix hfx hlt) hce hrep (.nil _ _),_,T,fr,hheap,rfl⟩
 ·cases hvar
def laidX : List (String × DataW Unit) := [("math/bits.deBruijn32tab", Rows.laid_math_bits_deBruijn32tab), ("math/bits.deBruijn64tab", Rows.laid_math_bits_deBruijn64tab), ("internal/strconv.uint64pow10", Rows.laid_internal_strconv_uint64pow10), ("unicode/utf8.acceptRanges", Rows.laid_unicode_utf8_acceptRanges), ("tabular/parse.levels", Rows.laid_tabular_parse_levels), ("unicode/utf8.first", Rows.laid_unicode_utf8_first)]
def xSt (m:Int):ASt:=fun b=>if b=0 then some (.fix [lvAV]) else wSt m b
theorem xSt_u8 (m:Int):U8 (xSt m):=⟨by simp [xSt,wSt,vSt,vPs,stOf],by simp [xSt,wSt,vSt,vPs,stOf]⟩
theorem xSt_tab (m:Int):Tab (xSt m):=by simp [Tab,xSt,wSt,vSt,vPs,stOf]
theorem xSt_max (m:Int):MaxL (xSt m):=⟨m,by simp [xSt,wSt]⟩
theorem xSt_lv (m:Int):LV (xSt m):=by simp [LV,xSt]
theorem xSt_fix {m:Int} {b:Nat} {r:Role} (h:xSt m b=some r):∃ l,r = .fix l:=by
 unfold xSt at h
 split at h
 ·injection h with h;exact ⟨_,h.symm⟩
 ·exact wSt_fix h
theorem x_sim {W:World} (hsh:W.ShapedOpen Tryz.prog) (h:laidMetH Tryz.prog laidX W):∃ m,Sim (xSt m) W:=by
 rw [MakeChecks.laidMetH_plain _ _ _ (by kernel_rfl)] at h
 have hp : VarReads Tryz.prog W "internal/strconv.uint64pow10" (Lib.tabData .u64 Lib.pow10Tab) := Lib.laidMet.reads h (.tail _ (.tail _ (.head _)))
 have h4 : VarReads Tryz.prog W "unicode/utf8.acceptRanges" acceptData := acc_eq ▸ Lib.laidMet.reads h (.tail _ (.tail _ (.tail _ (.head _))))
 have h5 : VarReads Tryz.prog W "tabular/parse.levels" (.slice (levelsL.map fun l => .slice (l.map fun s => .lit (.string s)) []) []) := Lib.laidMet.reads h (.tail _ (.tail _ (.tail _ (.tail _ (.head _)))))
 have h3 : VarReads Tryz.prog W "unicode/utf8.first" firstData := first_eq ▸ Lib.laidMet.reads h (.tail _ (.tail _ (.tail _ (.tail _ (.tail _ (.head _))))))
 obtain ⟨m,hm⟩:=Go.Proofs.cell_of_shapedOpen_int (g:=4) (zero := #[.int .i64 0]) (t:=3) hsh (of_decide_eq_true (by kernel_rfl)) (by kernel_rfl) rfl (by kernel_rfl) (by kernel_rfl) Tryz.underlying3
 have hm:W.cell? ⟨4,0,none⟩=some (.int .i64 m):=hm
 obtain ⟨cs,hh,hsz,_⟩:=hsh.1 4 #[.int .i64 0] 3 (of_decide_eq_true (by kernel_rfl)) (by kernel_rfl)
 obtain ⟨r1,r2⟩:=u8_roles (σ:=xSt m) h3 h4
 refine ⟨m,fun b r hb=>?_⟩
 have hb0:=hb
 unfold xSt at hb
 split at hb
 ·rename_i hbb
  subst hbb
  injection hb with hb
  subst hb
  exact levels_role (fun _ _=>xSt_fix) h5
 unfold wSt at hb
 split at hb
 ·rename_i hbb
  subst hbb
  injection hb with hb
  subst hb
  have hlt:4<W.heap.size:=(Array.getElem?_eq_some_iff.1 hh).1
  refine ⟨At.mk' (ints_reps _) (fun j _=>⟨hlt,.inr (.inl ⟨_,hb0⟩)⟩) (fun j v hj=>?_),cs,_,_,hh,hsz⟩
  match j,hj with
  | 0,hj=>injection hj with hj;subst hj;exact hm
 ·obtain ⟨l,hl,rfl⟩:=stOf_mem hb
  simp only [vPs,List.mem_cons,List.not_mem_nil,or_false,Prod.mk.injEq] at hl
  rcases hl with ⟨rfl,rfl⟩|⟨rfl,rfl⟩|⟨rfl,rfl⟩
  ·exact r1 (xSt_u8 m).1
  ·exact r2 (xSt_u8 m).2
  ·exact pow_role (fun _ _=>xSt_fix) hp
theorem calls_x {m:Int} {f:FuncId} {args:List AV} {vs:List Value} {w:World} (h:ACalls Tryz.prog f args (xSt m) fun r σ'=>r = .bool true/\σ'=xSt m) (hs:Sim (xSt m) w) (hr:Reps (xSt m) w args vs) :
  Calls Tryz.prog f ⟨vs⟩ w fun e w'=>e = .returned (.bool true)/\Ext w w':=
 (h w vs hs hr).mono fun e w' ⟨u,r,σ',he,⟨hrt,hst⟩,hle,_,hrep⟩=>by
  subst hrt hst
  cases hrep
  refine ⟨he,Ext.of_below ⟨hle.os,hle.tape,hle.output,hle.size,fun k hk=>?_⟩⟩
  cases hn:xSt m k with
  | none=>exact (hle.keep k hk hn).2
  | some r=>
    obtain ⟨l,rfl⟩:=xSt_fix hn
    exact (hle.fix k _ hk hn).2
end Go.Proofs.YtfnhdjigeedieaaGreatDoor
