/- Part 11 of what TabularTiles leans on: Or Os Ou Ow CodeOx Ox CodeKa Ka CodeKb Kb CodeKc Kc CodeKd Kd CodeKe Ke CodeKf Kf CodeKl Kl CodeOv Ov CodeOy. -/
import Derived.Test.YtfnhdjigeedieaaGreatDoorProg
import Derived.KernelRfl
import Derived.Test.YtfnhdjigeedieaaGreatDoorZTabularTilesj
set_option linter.defProp false
set_option linter.unusedSimpArgs false
set_option linter.unusedVariables false
set_option maxRecDepth 100000
section
attribute [local go_sem] reduceCtorEq Nat.reduceEqDiff Nat.reduceAdd Nat.reduceSub Nat.reduceMul Nat.reduceLeDiff Int.reduceLT Int.reduceLE Int.reduceEq Int.reduceNeg Int.reduceAdd Int.reduceSub Int.reduceMul true_imp_iff forall_const Nat.mul_one Int.reduceToNat Nat.reducePow Int.reducePow Bool.true_and Bool.false_and Bool.and_false
attribute [local go_sem ↓] reduceIte
namespace Go.A
open Go.Proofs Go.Lib Go.Vint
theorem endV_place (k y:Int) (z:List UInt8) (p:Nat):(endV k y z p).2.2=p:=by unfold endV;split<;>rfl
theorem getV_facts {s:List UInt8} {p:Nat} (hp:p<=s.length):(getV s p).2.2<=s.length:=by
 obtain ⟨f1,f2,f3,f4⟩:=rUq s p 0 hp
 have hq2:=rUq s (readU s p 0).2.1 0 f2
 have hx2:=rtxP_facts s (readU s p 0).2.1 2000 f2
 unfold getV
 split
 ·exact f2
 split
 ·split
  ·exact hq2.2.1
  ·rw [endV_place];exact hq2.2.1
 split
 ·split
  ·exact hx2.1
  ·rw [endV_place];exact hx2.1
 ·rw [endV_place];exact f2
theorem endC_place (t:Nd) (G:PV×Int×Nat):(endC t G).2.2=G.2.2:=by
 unfold endC
 split
 ·rfl
 ·split<;>rfl
theorem getC_facts {s:List UInt8} {p:Nat} (hp:p<=s.length) (em:Bool):(getC s p em).2.2<=s.length:=by
 obtain ⟨f1,f2,f3,f4⟩:=rUq s p 0 hp
 have ht:=treeR_facts s 2101 (readU s p 0).2.1 f2
 unfold getC
 split
 ·exact f2
 split
 ·exact f2
 split
 ·exact f2
 split
 ·split
  ·exact ht.1
  ·rw [endC_place];exact getV_facts ht.1
 ·rw [endC_place];exact getV_facts f2
theorem risF_place (s:List UInt8):∀ (k:Nat) (l:List Int) (p:Nat) (e:Int),p<=s.length->(∀ x∈l,0<=x/\x<=18446744073709551615)->(risF s k l p e).2.1<=s.length/\∀ x∈(risF s k l p e).1,0<=x/\x<=18446744073709551615
 | 0,l,p,e,hp,hl=>⟨hp,hl⟩
 | k+1,l,p,e,hp,hl=>by
   obtain ⟨f1,f2,f3,f4⟩:=rUq s p e hp
   rw [risF]
   split
   ·exact ⟨hp,hl⟩
   ·split
    ·refine risF_place s k _ _ _ f2 fun x hx=>?_
     rcases List.mem_append.1 hx with hx|hx
     ·exact hl x hx
     ·rw [List.mem_singleton.1 hx];omega
    ·rename_i x hx
     have hxm:=hl x (List.mem_of_getLast? hx)
     obtain ⟨g1,g2,g3⟩:=afterP_facts s p e x hp hxm.1 hxm.2
     refine risF_place s k _ _ _ g3 fun y hy=>?_
     rcases List.mem_append.1 hy with hy|hy
     ·exact hl y hy
     ·rw [List.mem_singleton.1 hy];exact ⟨g1,g2⟩
theorem risingR_place {s:List UInt8} {p most:Nat} {e:Int} (hp:p<=s.length):(risingR s p e most).2.1<=s.length/\∀ x∈(risingR s p e most).1,0<=x/\x<=18446744073709551615:=by
 have hc:=countP_facts s p e most hp
 have h:=risF_place s (countP s p e most).1 [] (countP s p e most).2.1 (countP s p e most).2.2 hc.2 (fun x hx=>by cases hx)
 unfold risingR
 split
 ·exact ⟨h.1,fun x hx=>by cases hx⟩
 ·exact h
def cellsR (s:List UInt8) (em:Bool):List Int->Nat->List TC->List TC×Int×Nat
 | [],p,T=>(T,0,p)
 | i::ls,p,T=>if 32<=i then (T,3,p) else if (getC s p em).2.1≠0 then (T,(getC s p em).2.1,p) else cellsR s em ls (getC s p em).2.2 (T.set i.toNat (getC s p em).1)
def finR (s:List UInt8) (u:Nat) (R:List TC×Int×Nat):List TC×Nat×Int:=if R.2.1≠0 then ([],0,R.2.1) else if R.2.2<s.length then ([],0,3) else (R.1,u,0)
def placesL (u:Nat):List Int:=(List.range 32).map fun i=>((placeN (u:Int) i:Nat):Int)
def tileR (s:List UInt8):List TC×Nat×Int:=
 if (readU s 0 0).2.2≠0 then ([],0,(readU s 0 0).2.2)
 else if (readU s 0 0).1<1\/3<(readU s 0 0).1 then ([],0,3)
 else if (readU s 0 0).1=3 then
  if (risingR s (readU s 0 0).2.1 0 32).2.2≠0 then ([],0,(risingR s (readU s 0 0).2.1 0 32).2.2)
  else finR s 3 (cellsR s false (risingR s (readU s 0 0).2.1 0 32).1 (risingR s (readU s 0 0).2.1 0 32).2.1 (List.replicate 32 zTC))
 else finR s (readU s 0 0).1 (cellsR s true (placesL (readU s 0 0).1) (readU s 0 0).2.1 (List.replicate 32 zTC))
def TreadQ (σ:ASt) (R:List TC×Nat×Int) (v:AV) (σ':ASt):Prop:=
 (R.2.2=0/\∃ q,σ q=none/\v = .tuple [.ptr q 0,.int .i64 R.2.1,.int .i64 0]/\σ'=σ.set q (some (.obj (tileCs R.1))))\/(R.2.2≠0/\v = .tuple [.nilp,.int .i64 0,.int .i64 R.2.2]/\σ'=σ)
set_option maxHeartbeats 4000000 in
theorem tread_tail {σ S:ASt} {s:List UInt8} (hs:s.length<=10000000) {b q p u:Nat} (hu:u<=3) (hp:p<=s.length) {kk:SK} {ns:List Int} (hns:∀ x∈ns,0<=x/\x<=18446744073709551615) (hnl:ns.length<=1000) {Zc:List AV} (hZc:deeps Zc=tileCs (List.replicate 32 zTC))
  (hb:S b=rd s p 0) (hq:S q=some (.obj Zc)) (hbq:b≠q) (hsb:σ b=none) (hsq:σ q=none) (hout:∀ x,x≠b->x≠q->σ x=S x\/σ x=none) (hU:U8 S) (a1:AFr)
  (hf:a1 5 = .ptr b 0/\a1 6 = .int .u64 u/\a1 7 = .ptr q 0/\a1 8 = .sl kk (ns.map (AV.int .u64))) :
  ACode.wp Tryz.prog c25_71 (RetQ [.t 2,.t 3,.t 4] (TreadQ σ (finR s u (cellsR s (decide (u≠3)) ns p (List.replicate 32 zTC))))) a1 S:=by
 have hqb:q≠b:=Ne.symm hbq
 obtain ⟨RES,hRES⟩:∃ R,cellsR s (decide (u≠3)) ns p (List.replicate 32 zTC)=R:=⟨_,rfl⟩
 rw [hRES]
 have hS:S=(S.set b (rd s p 0)).set q (some (.obj Zc)):=by
  funext x
  by_cases h1:x=q
  ·rw [h1,ASt.set_same,hq]
  by_cases h2:x=b
  ·rw [h2,ASt.set_ne hbq,ASt.set_same,hb]
  ·rw [ASt.set_ne h1,ASt.set_ne h2]
 have hsd:SDrop ((S.set b (rd s p 0)).set q (some (.obj Zc))) ((S.set b (rd s p 0)).set q (some (.obj (tileCs (List.replicate 32 zTC))))):=SDrop.cong (SDrop.refl _) hZc
 have hUU:∀ (P:Nat) (E:Int) (cs:List AV),U8 ((S.set b (rd s P E)).set q (some (.obj cs))):=fun P E cs=>U8.objs (cs:=Zc) (U8.rd hU hb P E) (by rw [ASt.set_ne hqb];exact hq)
 have hG:=fun (T:List TC) (P:Nat) (hP:P<=s.length) (em:Bool)=>tget_ok (hUU P 0 (tileCs T)) s P b (by rw [ASt.set_ne hbq,ASt.set_same]) hs hP em
 have hsw:∀ (X Y Z:Option Role),((S.set b X).set q Y).set b Z=(S.set b Z).set q Y:=fun X Y Z=>by rw [set_swap hqb,ASt.set_set]
 have hdn:=fun (T:List TC) (P:Nat)=>rdone_ok s P 0 b ((S.set b (rd s P 0)).set q (some (.obj (tileCs T)))) (by rw [ASt.set_ne hbq,ASt.set_same])
 have hdr0:∀ X Y,Drop ((S.set b X).set q Y) σ:=fun X Y x=>by
  by_cases h1:x=q
  ·rw [h1];exact .inr hsq
  by_cases h2:x=b
  ·rw [h2];exact .inr hsb
  rw [ASt.set_ne h1,ASt.set_ne h2]
  exact hout x h2 h1
 have hdr1:∀ X Y,Drop ((S.set b X).set q Y) (σ.set q Y):=fun X Y x=>by
  by_cases h1:x=q
  ·rw [h1,ASt.set_same,ASt.set_same];exact .inl rfl
  rw [ASt.set_ne h1,ASt.set_ne h1]
  by_cases h2:x=b
  ·rw [h2];exact .inr hsb
  rw [ASt.set_ne h2]
  exact hout x h2 h1
 have hnl':((ns.map (AV.int .u64)).length:Int)=(ns.length:Int):=by rw [List.length_map]
 obtain ⟨J,hJ⟩:∃ J:Nat->AFr->ASt->Prop,J=fun j a s2=>j<=ns.length/\(a 5 = .ptr b 0/\a 6 = .int .u64 u/\a 7 = .ptr q 0/\a 53 = .sl kk (ns.map (AV.int .u64))/\a 54 = .int .i64 ns.length/\a 55 = .int .i64 j)/\∃ T P,T.length=32/\P<=s.length/\cellsR s (decide (u≠3)) (ns.drop j) P T=RES/\s2=(S.set b (rd s P 0)).set q (some (.obj (tileCs T))):=⟨_,rfl⟩
 rw [hS]
 simp (disch:=first|assumption|omega) only [go_sem,hf,hnl']
 refine wp_loop_by J (fun j=>ns.length-j) 0 (Dr.sdrop hsd ?_) ?_
 ·rw [hJ]
  refine ⟨Nat.zero_le _,?_,_,p,List.length_replicate,hp,hRES,rfl⟩
  simp (disch:=first|assumption|omega) only [go_sem,hf]
 clear hf hsd hS hRES hb hq
 intro j a2 s2 hjj
 rw [hJ] at hjj
 obtain ⟨hj,hf,T,P,hTl,hP,hR,rfl⟩:=hjj
 by_cases hlt:j<ns.length
 ·have hlt':(j:Int)<(ns.length:Int):=by omega
  obtain ⟨i,hi⟩:∃ i,ns[j]? = some i:=⟨_,List.getElem?_eq_getElem hlt⟩
  have hib:=hns i (List.mem_of_getElem? hi)
  have hix:(ns.map (AV.int .u64))[j]? = some (.int .u64 i):=by rw [List.getElem?_map,hi];rfl
  have hdrop:ns.drop j=i::ns.drop (j+1):=by
   obtain ⟨_,rfl⟩:=List.getElem?_eq_some_iff.1 hi
   exact List.drop_eq_getElem_cons hlt
  rw [hdrop,cellsR] at hR
  by_cases h32:32<=i
  ·rw [if_pos h32] at hR
   subst hR
   simp (disch:=first|assumption|omega) only [go_sem,hf,hlt',hix,h32]
   exact retC_by (hdr0 _ _) (.refl _) (.inr ⟨by rw [finR,if_pos (show (3:Int)≠0 by decide)];exact (by decide:(3:Int)≠0),by rw [finR,if_pos (show (3:Int)≠0 by decide)];rfl,rfl⟩)
  ·rw [if_neg h32] at hR
   have hE:=hG T P hP (decide (u≠3))
   have hGf:=getC_facts hP (decide (u≠3))
   obtain ⟨⟨c,e,P2⟩,hGe⟩:∃ G,getC s P (decide (u≠3))=G:=⟨_,rfl⟩
   rw [hGe] at hE hR hGf
   dsimp only at hR hGf
   have hdec:decide (u≠3) = !decide ((u:Int)=3):=by
    by_cases h3:u=3
    ·rw [h3];rfl
    ·rw [decide_eq_true h3,decide_eq_false (by omega:¬ (u:Int)=3)];rfl
   rw [hdec] at hE
   simp (disch:=first|assumption|omega) only [go_sem,hf,hlt',hix,h32]
   refine hE.mono ?_
   rintro v σ1 ⟨rfl,P',E',rfl,hPE⟩
   dsimp only at hPE
   rw [hsw]
   simp (disch:=first|assumption|omega) only [go_sem]
   refine aBq fun c12 h12=>?_
   have h12q:c12≠q:=by rintro rfl;rw [ASt.set_same] at h12;cases h12
   rw [ASt.set_ne h12q] at h12
   have h12b:c12≠b:=by rintro rfl;unfold A.rd at h12;rw [ASt.set_same] at h12;cases h12
   rw [ASt.set_ne h12b] at h12
   have hs12:σ c12=none:=(hout c12 h12b h12q).elim (fun h=>h.trans h12) id
   have hf1:=TC.cs_leaf c
   have hn1:=TC.cs_len c
   have hset1:=flat_set TC.cs_len c T i.toNat (by omega)
   have hcl:=flat_len TC.cs_len T
   have hTl2:(T.set i.toNat c).length=32:=by rw [List.length_set];exact hTl
   have hcd:∀ T,T.flatMap TC.cs=tileCs T:=fun _=>rfl
   rw [hcd,hcd] at hset1
   rw [hcd] at hcl
   rw [TC.av_cs]
   generalize hT2:T.set i.toNat c=T2 at *
   generalize hC2:tileCs T2=C2 at *
   generalize hC1:tileCs T=C1 at *
   generalize c.cs=mcs at *
   have hb1:i.toNat*13+13<=C1.length:=by omega
   have hi32:i<32:=by omega
   have htk:mcs.take 13=mcs:=List.take_of_length_le (by omega)
   by_cases he:e=0
   ·rw [if_neg (fun h=>h he)] at hR
    obtain ⟨rfl,rfl⟩:=hPE he
    simp (disch:=first|assumption|omega) only [go_sem,hf,hf1,hn1,he,hi32,hib,hb1,hset1,htk,Nat.zero_add]
    refine ⟨j+1,by dsimp only;omega,?_⟩
    rw [set_swap h12q,ASt.set_set]
    refine Dr.drop (Drop.set (by rw [ASt.set_ne h12q,ASt.set_ne h12b];exact h12)) ?_
    rw [hJ]
    refine ⟨by omega,?_,T2,P',hTl2,hGf,hR,by rw [hC2]⟩
    simp (disch:=first|assumption|omega) only [go_sem,hf]
   ·rw [if_pos he] at hR
    subst hR
    simp (disch:=first|assumption|omega) only [go_sem,hf,hf1,hn1,he]
    refine retC_by (σ':=σ) (fun y=>?_) (.refl _) (.inr ⟨by rw [finR,if_pos (by exact he)];exact he,by rw [finR,if_pos (by exact he)];rfl,rfl⟩)
    by_cases y1:y=c12
    ·rw [y1];exact .inr hs12
    rw [ASt.set_ne y1]
    exact hdr0 _ _ y
 ·have hlt':¬ (j:Int)<(ns.length:Int):=by omega
  rw [List.drop_of_length_le (by omega),cellsR] at hR
  subst hR
  have hD:=hdn T P
  by_cases hPl:P<s.length
  ·rw [if_pos hPl] at hD
   simp (disch:=first|assumption|omega) only [go_sem,hf,hlt']
   refine hD.mono ?_
   rintro v σ1 ⟨rfl,rfl⟩
   simp (disch:=first|assumption|omega) only [go_sem,firstErr]
   exact retC_by (by rw [hsw];exact hdr0 _ _) (.refl _) (.inr ⟨by rw [finR,if_neg (fun h=>h rfl),if_pos (by exact hPl)];exact (by decide:(3:Int)≠0),by rw [finR,if_neg (fun h=>h rfl),if_pos (by exact hPl)];rfl,rfl⟩)
  ·rw [if_neg hPl] at hD
   simp (disch:=first|assumption|omega) only [go_sem,hf,hlt']
   refine hD.mono ?_
   rintro v σ1 ⟨rfl,rfl⟩
   simp (disch:=first|assumption|omega) only [go_sem,hf]
   exact retC_by (by rw [hsw];exact hdr1 _ _) (.refl _) (.inl ⟨by rw [finR,if_neg (fun h=>h rfl),if_neg (by exact hPl)],q,hsq,by rw [finR,if_neg (fun h=>h rfl),if_neg (by exact hPl)];rfl,by rw [finR,if_neg (fun h=>h rfl),if_neg (by exact hPl)]⟩)
set_option maxHeartbeats 2000000 in
theorem tread_post {σ S:ASt} {s:List UInt8} (hs:s.length<=10000000) {b q p u:Nat} {E:Int} (hu:u<=3) (hp:p<=s.length) {kk:SK} {ns:List Int} (hns:∀ x∈ns,0<=x/\x<=18446744073709551615) (hnl:ns.length<=1000) {Zc:List AV} (hZc:deeps Zc=tileCs (List.replicate 32 zTC))
  (hb:S b=rd s p E) (hq:S q=some (.obj Zc)) (hbq:b≠q) (hsb:σ b=none) (hsq:σ q=none) (hout:∀ x,x≠b->x≠q->σ x=S x\/σ x=none) (hU:U8 S) (a1:AFr)
  (hf:a1 5 = .ptr b 0/\a1 6 = .int .u64 u/\a1 7 = .ptr q 0/\a1 8 = .sl kk (ns.map (AV.int .u64))) {R:List TC×Nat×Int}
  (hR:if E≠0 then R.2.2=E else R=finR s u (cellsR s (decide (u≠3)) ns p (List.replicate 32 zTC))) :
  ACode.wp Tryz.prog c25_72 (RetQ [.t 2,.t 3,.t 4] (TreadQ σ R)) a1 S:=by
 have hE:=rerr_ok s p E b S hb
 obtain ⟨K,hK⟩:∃ K,K=c25_71:=⟨_,rfl⟩
 rw [c25_72.eq_1,← hK]
 by_cases he:E=0
 ·subst he
  rw [if_neg (fun h=>h rfl)] at hR
  subst hR
  simp (disch:=first|assumption|omega) only [go_sem,hf]
  refine hE.mono ?_
  rintro v σ1 ⟨rfl,rfl⟩
  simp (disch:=first|assumption|omega) only [go_sem]
  rw [hK]
  refine tread_tail (kk:=kk) hs hu hp hns hnl hZc hb hq hbq hsb hsq hout hU _ ?_
  simp (disch:=first|assumption|omega) only [go_sem,hf]
 ·rw [if_pos he] at hR
  simp (disch:=first|assumption|omega) only [go_sem,hf]
  refine hE.mono ?_
  rintro v σ1 ⟨rfl,rfl⟩
  simp (disch:=first|assumption|omega) only [go_sem,hf,he]
  refine hE.mono ?_
  rintro v σ1 ⟨rfl,rfl⟩
  simp (disch:=first|assumption|omega) only [go_sem,hf,he]
  refine retC_by (σ':=σ) (fun y=>?_) (.refl _) (.inr ⟨by rw [hR];exact he,by rw [hR];rfl,rfl⟩)
  by_cases y1:y=b
  ·rw [y1];exact .inr hsb
  by_cases y2:y=q
  ·rw [y2];exact .inr hsq
  exact hout y y1 y2
def ordP (u n:Nat):List AV:=(List.range n).map fun (i:Nat)=>AV.int .u64 (placeN (u:Int) i:Nat)
theorem ordP_succ (u n:Nat):ordP u (n+1)=ordP u n ++ [.int .u64 (placeN (u:Int) n:Nat)]:=by
 unfold ordP;rw [List.range_succ,List.map_append];rfl
theorem ordP_len (u n:Nat):(ordP u n).length=n:=by unfold ordP;simp
theorem ordP_all (u:Nat):ordP u 32=(placesL u).map (AV.int .u64):=by unfold ordP placesL;rw [List.map_map];rfl
theorem placesL_at {u:Nat}:∀ x∈placesL u,0<=x/\x<=18446744073709551615:=fun x hx=>by
 obtain ⟨i,hi,rfl⟩:=List.mem_map.1 hx
 have:=placeN_lt (k:=(u:Int)) (List.mem_range.1 hi)
 omega
theorem risF_len {s:List UInt8}:∀ (k:Nat) (l:List Int) (p:Nat) (e:Int),(risF s k l p e).1.length<=l.length+k
 | 0,l,p,e=>Nat.le_refl _
 | k+1,l,p,e=>by
   rw [risF]
   split
   ·show l.length<=l.length+(k+1);omega
   ·split
    ·refine Nat.le_trans (risF_len k _ _ _) ?_;rw [List.length_append];show _+1+k<=_;omega
    ·refine Nat.le_trans (risF_len k _ _ _) ?_;rw [List.length_append];show _+1+k<=_;omega
theorem risingR_len {s:List UInt8} {p most:Nat} {e:Int}:(risingR s p e most).1.length<=most:=by
 have h1:(countP s p e most).1<=most:=by unfold countP;split;exact Nat.zero_le _;split;exact Nat.zero_le _;show (readU s p e).1<=_;omega
 have h:=risF_len (s:=s) (countP s p e most).1 [] (countP s p e most).2.1 (countP s p e most).2.2
 unfold risingR
 split
 ·exact Nat.zero_le _
 ·simp at h;omega
theorem tread_c8:c25_8 = .ops [⟨some 30,none,.q (.build z416 []),[]⟩,⟨some 31,none,.e (.box (.t 30)),[]⟩,⟨some 7,none,.q (.mv (.t 31)),[]⟩]:=by rfl
set_option maxHeartbeats 4000000 in
theorem tread_mid {σ:ASt} (hU:U8 σ) {s:List UInt8} (hs:s.length<=10000000) {b q p1 u:Nat} {e1:Int} (hu:u<=3) (hp:p1<=s.length) {Z:List AV} (hZ:deeps Z=tileCs (List.replicate 32 zTC)) (hb:σ b=none) (hq:σ q=none) (hbq:b≠q) {a1:AFr} (hf:a1 5 = .ptr b 0/\a1 6 = .int .u64 u/\a1 7 = .ptr q 0) {R:List TC×Nat×Int}
  (hR:if u=3 then (if (risingR s p1 e1 32).2.2≠0 then R.2.2=(risingR s p1 e1 32).2.2 else R=finR s 3 (cellsR s false (risingR s p1 e1 32).1 (risingR s p1 e1 32).2.1 (List.replicate 32 zTC))) else (if e1≠0 then R.2.2=e1 else R=finR s u (cellsR s true (placesL u) p1 (List.replicate 32 zTC)))) :
  ACode.wp Tryz.prog c25_74 (RetQ [.t 2,.t 3,.t 4] (TreadQ σ R)) a1 ((σ.set b (rd s p1 e1)).set q (some (.obj Z))):=by
 obtain ⟨K,hK⟩:∃ K,K=c25_72:=⟨_,rfl⟩
 have hqb:q≠b:=Ne.symm hbq
 have hU2:∀ P E,U8 ((σ.set b (rd s P E)).set q (some (.obj Z))):=fun P E=>U8.set (U8.set hU hb) (by rw [ASt.set_ne hqb];exact hq)
 have hout:∀ P E x,x≠b->x≠q->σ x=((σ.set b (rd s P E)).set q (some (.obj Z))) x:=fun P E x h1 h2=>by rw [ASt.set_ne h2,ASt.set_ne h1]
 rw [c25_74.eq_1,c25_73.eq_1,← hK]
 by_cases h3:u=3
 ·subst h3
  rw [if_pos rfl] at hR
  have hRi:=rrising_ok s p1 e1 32 b ((σ.set b (rd s p1 e1)).set q (some (.obj Z))) (by rw [ASt.set_ne hbq,ASt.set_same]) (by omega) hp (by decide)
  have hpl:=risingR_place (s:=s) (p:=p1) (most:=32) (e:=e1) hp
  have hln:=risingR_len (s:=s) (p:=p1) (most:=32) (e:=e1)
  generalize risingR s p1 e1 32=X at *
  obtain ⟨L,p2,e2⟩:=X
  dsimp only at hR hRi hpl hln
  rw [set_swap hqb,ASt.set_set] at hRi
  unfold u64sAV at hRi
  simp (disch:=first|assumption|omega) only [go_sem,hf]
  refine hRi.mono ?_
  rintro v σ1 ⟨rfl,rfl⟩
  simp (disch:=first|assumption|omega) only [go_sem]
  rw [hK]
  refine tread_post (kk := .shr) (ns:=L) (E:=e2) hs hu hpl.1 hpl.2 (by omega) hZ (by rw [ASt.set_ne hbq,ASt.set_same]) (ASt.set_same _ _ _) hbq hb hq (fun x h1 h2 => .inl (hout _ _ x h1 h2)) (hU2 _ _) _ ?_ hR
  simp (disch:=first|assumption|omega) only [go_sem,hf]
 ·rw [if_neg h3] at hR
  have h3':¬ (u:Int)=3:=by omega
  have hdc:decide (u≠3)=true:=decide_eq_true h3
  have hUk:=hU2 p1 e1
  have hout':=hout p1 e1
  have hSb:((σ.set b (rd s p1 e1)).set q (some (.obj Z))) b=rd s p1 e1:=by rw [ASt.set_ne hbq,ASt.set_same]
  have hSq:((σ.set b (rd s p1 e1)).set q (some (.obj Z))) q=some (.obj Z):=ASt.set_same _ _ _
  generalize (σ.set b (rd s p1 e1)).set q (some (.obj Z))=S0 at *
  simp (disch:=first|assumption|omega) only [go_sem,hf,h3']
  refine wLq (fun (i:Nat) a s2=>i<=32/\∃ kk,(a 5 = .ptr b 0/\a 6 = .int .u64 u/\a 7 = .ptr q 0/\a 8 = .sl kk (ordP u i)/\a 36 = .int .i64 i)/\Grown S0 s2 kk (ordP u i).length 1) (fun i=>32-i) 0 ⟨Nat.zero_le _,.full,?_,.inl ⟨rfl,rfl,rfl⟩⟩ ?_
  ·simp (disch:=first|assumption|omega) only [go_sem,hf]
   all_goals rfl
  rintro i a2 s2 ⟨hi,kk,hf,hg⟩
  have hln:=ordP_len u i
  by_cases hlt:i<32
  ·have hlt':(i:Int)<32:=by omega
   have hst:=ordP_succ u i
   have hpn:=placeN_lt (k:=(u:Int)) hlt
   have hP:=place_ok (u:Int) i hlt
   generalize placeN (u:Int) i=pn at *
   generalize ordP u i=xs at *
   simp (disch:=first|assumption|omega) only [go_sem,hf,hlt']
   refine hP.use ?_
   simp (disch:=first|assumption|omega) only [go_sem,hf]
   refine appC_by hg rfl rfl (by rw [hln];simp;omega) (by rw [hln];simp;omega) fun q' s3 hg'=>?_
   simp (disch:=first|assumption|omega) only [go_sem,hf]
   refine ⟨i+1,by omega,by omega,q',?_,by rw [hst];simpa using hg'⟩
   rw [hst]
   simp (disch:=first|assumption|omega) only [go_sem,hf]
   all_goals simp
  ·have hi32:i=32:=by omega
   subst hi32
   have hlt':¬ ((32:Nat):Int)<32:=by omega
   rw [ordP_all] at hf
   simp (disch:=first|assumption|omega) only [go_sem,hf,hlt']
   rw [hK]
   refine tread_post (kk:=kk) (ns:=placesL u) (E:=e1) hs hu hp placesL_at (by unfold placesL;simp) hZ ?_ ?_ hbq hb hq (fun x h1 h2=>?_) ?_ _ ?_ (by rw [hdc];exact hR)
   ·exact hg.at hSb
   ·exact hg.at hSq
   ·rcases hg.drop x with h|h
    ·exact .inl ((hout' x h1 h2).trans h)
    ·exact .inr ((hout' x h1 h2).trans h)
   ·rcases hg with ⟨_,_,rfl⟩|⟨c,T,_,hc,rfl⟩
    ·exact hUk
    ·exact U8.set hUk hc
   ·simp (disch:=first|assumption|omega) only [go_sem,hf]
set_option maxHeartbeats 4000000 in
theorem tread_ok {σ:ASt} (hU:U8 σ) (s:List UInt8) (hs:s.length<=10000000):ACalls Tryz.prog 25 [.str s] σ (TreadQ σ (tileR s)):=by
 obtain ⟨R,hR⟩:∃ R,tileR s=R:=⟨_,rfl⟩
 rw [hR]
 obtain ⟨f1,f2,f3,f4⟩:=rUq s 0 0 (Nat.zero_le _)
 unfold tileR at hR
 have hI:=fun (b:Nat)=>ruint_ok s 0 0 b (σ.set b (rd s 0 0)) (ASt.set_same _ _ _) (by omega) (Nat.zero_le _)
 have hE:=fun (b P:Nat) (E:Int)=>rerr_ok s P E b (σ.set b (rd s P E)) (ASt.set_same _ _ _)
 have hRi:=fun (b P q:Nat) (E:Int) (τ:ASt) (h:τ b=rd s P E) (hP:P<=s.length)=>rrising_ok s P E 32 b τ h (by omega) hP (by decide)
 have hU1:∀ b,σ b=none->∀ P E,U8 (σ.set b (rd s P E)):=fun b hb P E=>U8.set hU hb
 obtain ⟨RU,hRU⟩:∃ RU,readU s 0 0=RU:=⟨_,rfl⟩
 rw [hRU] at hR f1 f2 f3 hI
 obtain ⟨u,p1,e1⟩:=RU
 dsimp only at hR f1 f2 f3 hI
 obtain ⟨Z,hZ⟩:∃ Z,Z=z416:=⟨_,rfl⟩
 have hs1:=soft416z
 have hl416:=z416_len
 have hc8:=tread_c8
 rw [<-hZ] at hs1 hc8 hl416
 obtain ⟨K,hK⟩:∃ K,K=c25_74:=⟨_,rfl⟩
 refine a25 (by simp) ?_
 rw [c25_79.eq_1,c25_78.eq_1,c25_77.eq_1,c25_76.eq_1,c25_75.eq_1,hc8,← hK]
 clear hZ hc8
 simp (disch:=first|assumption|omega) only [go_sem]
 refine (rread_ok s σ).mono ?_
 rintro v σ1 ⟨b,rfl,hb,rfl⟩
 simp (disch:=first|assumption|omega) only [go_sem]
 refine (hI b).mono ?_
 rintro v σ1 ⟨rfl,rfl⟩
 simp (disch:=first|assumption|omega) only [go_sem,ASt.set_set]
 refine (hE b p1 e1).mono ?_
 rintro v σ1 ⟨rfl,rfl⟩
 by_cases he:e1=0
 ·subst he
  rw [if_neg (fun h=>h rfl)] at hR
  by_cases h1:u<1
  ·have h1':(u:Int)<1:=by omega
   rw [if_pos (.inl h1)] at hR
   subst hR
   simp (disch:=first|assumption|omega) only [go_sem,h1']
   refine retC_by (σ':=σ) (Drop.set hb) (.refl _) (.inr ⟨(by decide:(3:Int)≠0),rfl,rfl⟩)
  have h1':¬ (u:Int)<1:=by omega
  by_cases h2:3<u
  ·have h2':(3:Int)<u:=by omega
   rw [if_pos (.inr h2)] at hR
   subst hR
   simp (disch:=first|assumption|omega) only [go_sem,h1',h2']
   refine retC_by (σ':=σ) (Drop.set hb) (.refl _) (.inr ⟨(by decide:(3:Int)≠0),rfl,rfl⟩)
  have h2':¬ (3:Int)<u:=by omega
  rw [if_neg (by omega)] at hR
  simp (disch:=first|assumption|omega) only [go_sem,h1',h2']
  refine boxC_by rfl fun q hq=>?_
  repeat (with_reducible replace hq:=set_none hq;obtain ⟨_,_,hq⟩:=hq)
  simp (disch:=first|assumption|omega) only [go_sem]
  rw [hK]
  refine tread_mid (u:=u) hU hs (by omega) f2 hs1 hb (by assumption) (by rename_i h _ ;exact Ne.symm h) ?_ ?_
  ·simp (disch:=first|assumption|omega) only [go_sem]
  ·by_cases h3:u=3
   ·rw [if_pos h3] at hR ⊢
    split at hR
    ·rename_i h;rw [if_pos h,← hR]
    ·rename_i h;rw [if_neg h,← hR]
   ·rw [if_neg h3] at hR ⊢
    rw [if_neg (fun h=>h rfl),← hR]
 ·rw [if_pos he] at hR
  subst hR
  obtain ⟨rfl,rfl⟩:=f3 he
  simp (disch:=first|assumption|omega) only [go_sem,he]
  refine boxC_by rfl fun q hq=>?_
  repeat (with_reducible replace hq:=set_none hq;obtain ⟨_,_,hq⟩:=hq)
  simp (disch:=first|assumption|omega) only [go_sem]
  rw [hK]
  refine tread_mid (u:=0) hU hs (by omega) f2 hs1 hb (by assumption) (by rename_i h _ ;exact Ne.symm h) ?_ ?_
  ·simp (disch:=first|assumption|omega) only [go_sem]
  ·rw [if_neg (by decide),if_pos he]
end Go.A
namespace Go.A
open Go.Proofs Go.Lib Go.Vint
theorem pair_nodup {l:List Int} (h:l.Pairwise (· < ·)):l.Nodup:=List.Pairwise.imp (fun h=>by omega) h
theorem nats_pair {T:List TC} {n:Nat}:(natsI (fullN T n)).Pairwise (· < ·):=by
 have hp:(fullN T n).Pairwise (· < ·):=List.Pairwise.filter _ List.pairwise_lt_range
 unfold natsI
 rw [List.pairwise_map]
 exact hp.imp fun h=>by omega
theorem mem_nats {T:List TC} {x:Int}:x∈natsI (fullN T 32)↔0<=x/\x<32/\hasT T x.toNat=true:=by
 unfold natsI fullN
 rw [List.mem_map]
 constructor
 ·rintro ⟨j,hj,rfl⟩
  obtain ⟨h1,h2⟩:=List.mem_filter.1 hj
  have:=List.mem_range.1 h1
  exact ⟨by omega,by omega,by rw [Int.toNat_natCast];exact h2⟩
 ·rintro ⟨h0,h1,h2⟩
  exact ⟨x.toNat,List.mem_filter.2 ⟨List.mem_range.2 (by omega),h2⟩,by omega⟩
theorem places_nodup {u:Nat} (h:u<=3):(placesL u).Nodup:=by
 have:u=0\/u=1\/u=2\/u=3:=by omega
 rcases this with rfl|rfl|rfl|rfl<;>decide +kernel
theorem places_all {u j:Nat} (h:u<=3) (hj:j<32):(j:Int)∈placesL u:=by
 have h2:∀ u:Nat,u<=3->∀ j:Nat,j<32->(j:Int)∈placesL u:=by decide +kernel
 exact h2 u h j hj
end Go.A
namespace Go.A
open Go.Proofs Go.Lib Go.Vint
def TC.back (c:TC):TC:=if c.empty=true then zTC else ⟨c.t,some c.val⟩
structure TC.neat (c:TC):Prop where
 made:c.made
 plain:c.isF=false->c.t=zNd
 of:ofP (plOf c.val)=c.val
 deep:c.t.depth<=2101
theorem getC_back {s r:List UInt8} {p:Nat} {em:Bool} {c:TC} (hc:c.neat) (he:em=true\/c.empty=false) (hd:s.drop p=c.bytes++r):getC s p em=(c.back,0,p+c.bytes.length):=by
 have hw:=hc.made.wf
 have hV:=fun (q:Nat) (h:s.drop q=putB c.val++r)=>getV_back h hw.good hw.short hc.of
 have hend:∀ (t:Nd) (q:Nat),t=c.t->c.empty=false->s.drop q=putB c.val++r->endC t (getV s q)=(c.back,0,q+(putB c.val).length):=by
  intro t q ht h h2
  have hce:TC.empty ⟨t,some c.val⟩=false:=by rw [ht];exact h
  unfold endC TC.back
  rw [hV q h2]
  dsimp only
  rw [if_neg (fun h=>h rfl),hce,if_neg (by simp),h,if_neg (by simp),ht]
 unfold TC.bytes at hd ⊢
 by_cases h1:c.empty=true
 ·rw [if_pos h1] at hd ⊢
  have hR:=readU_uint hd (by decide)
  have hem:em=true:=he.elim id fun h=>by rw [h1] at h;cases h
  unfold getC
  rw [hR]
  dsimp only
  rw [if_neg (fun h=>h rfl),if_neg (by rintro (h|⟨_,h⟩);omega;rw [hem] at h;cases h),if_pos rfl]
  unfold TC.back
  rw [if_pos h1]
 ·rw [if_neg h1] at hd ⊢
  have h1':c.empty=false:=by simpa using h1
  by_cases h2:c.isF=true
  ·rw [if_pos h2] at hd ⊢
   rw [List.append_assoc,List.append_assoc] at hd
   have hR:=readU_uint hd (by decide)
   have hd2:=drop_app hd
   have hT:=tree_back 2101 c.t (hw.wd h2) hc.deep _ _ hd2
   have hd3:=drop_app hd2
   unfold getC
   rw [hR]
   dsimp only
   rw [if_neg (fun h=>h rfl),if_neg (by rintro (h|⟨h,_⟩)<;>omega),if_neg (by decide),if_pos rfl,hT]
   dsimp only
   rw [if_neg (fun h=>h rfl),hend c.t _ rfl h1' hd3]
   simp only [List.length_append,Nat.add_assoc]
  ·rw [if_neg h2] at hd ⊢
   rw [List.append_assoc] at hd
   have hR:=readU_uint hd (by decide)
   have hd2:=drop_app hd
   unfold getC
   rw [hR]
   dsimp only
   rw [if_neg (fun h=>h rfl),if_neg (by rintro (h|⟨h,_⟩)<;>omega),if_neg (by decide),if_neg (by decide),hend zNd _ (hc.plain (by simpa using h2)).symm h1' hd2,List.length_append,Nat.add_assoc]
theorem cellsR_back {s r:List UInt8} {T:List TC} (hT:T.length=32) (hN:∀ c∈T,c.neat) {em:Bool}:∀ (ls:List Int) (p:Nat) (T0:List TC),ls.Nodup->(∀ x∈ls,0<=x/\x<32/\(em=true\/hasT T x.toNat=true))->T0.length=32->s.drop p=(ls.flatMap fun x=>cellB T x.toNat)++r →
  ∃ T',cellsR s em ls p T0=(T',0,p+(ls.flatMap fun x=>cellB T x.toNat).length)/\T'.length=32/\(∀ j:Nat,(j:Int) ∉ ls->T'[j]? = T0[j]?)/\(∀ x∈ls,T'[x.toNat]? = (T[x.toNat]?).map TC.back)
 | [],p,T0,_,_,h0,_=>⟨T0,rfl,h0,fun _ _=>rfl,fun x hx=>by cases hx⟩
 | i::ls,p,T0,hnd,hls,h0,hd=>by
   obtain ⟨hi0,hi1,hie⟩:=hls i List.mem_cons_self
   obtain ⟨c,hc⟩:∃ c,T[i.toNat]? = some c:=⟨_,List.getElem?_eq_getElem (by omega)⟩
   have hcn:=hN c (List.mem_of_getElem? hc)
   obtain ⟨hni,hnd'⟩:=List.nodup_cons.1 hnd
   rw [List.flatMap_cons,cellB_at hc,List.append_assoc] at hd
   have hce:em=true\/c.empty=false:=hie.imp id fun h=>by
    unfold hasT at h;rw [hc] at h
    have h:(!c.empty)=true:=h
    simpa using h
   have hg:=getC_back hcn hce hd
   obtain ⟨T',k1,k2,k3,k4⟩:=cellsR_back hT hN ls (p+c.bytes.length) (T0.set i.toNat c.back) hnd' (fun x hx=>hls x (List.mem_cons_of_mem _ hx)) (by rw [List.length_set];exact h0) (drop_app hd)
   refine ⟨T',?_,k2,fun j hj=>?_,fun x hx=>?_⟩
   ·rw [cellsR,if_neg (by omega),hg]
    dsimp only
    rw [if_neg (fun h=>h rfl),k1,List.flatMap_cons,cellB_at hc,List.length_append,Nat.add_assoc]
   ·rw [k3 j (fun h=>hj (List.mem_cons_of_mem _ h))]
    exact List.getElem?_set_ne (by rintro rfl;exact hj (by rw [show ((i.toNat:Nat):Int)=i by omega];exact List.mem_cons_self))
   ·rcases List.mem_cons.1 hx with rfl|hx
    ·rw [k3 x.toNat (by rw [show ((x.toNat:Nat):Int)=x by omega];exact hni),hc]
     exact List.getElem?_set_self (by omega)
    ·exact k4 x hx
theorem tileR_back {T:List TC} (hT:T.length=32) (hN:∀ c∈T,c.neat) {k:Nat} (hk1:1<=k) (hk3:k<=3):∃ T',tileR (tileB T (k:Int))=(T',k,0)/\T'.length=32/\∀ (j:Nat) c d,T[j]? = some c->T'[j]? = some d->d=c.back:=by
 obtain ⟨s,hs⟩:∃ s,tileB T (k:Int)=s:=⟨_,rfl⟩
 rw [hs]
 have hfin:∀ (ls:List Int) (em:Bool) (p:Nat),ls.Nodup->(∀ x∈ls,0<=x/\x<32/\(em=true\/hasT T x.toNat=true))->(∀ j:Nat,j<32->(j:Int) ∉ ls->hasT T j=false)->s.drop p=(ls.flatMap fun x=>cellB T x.toNat) →
   ∃ T',finR s k (cellsR s em ls p (List.replicate 32 zTC))=(T',k,0)/\T'.length=32/\∀ (j:Nat) c d,T[j]? = some c->T'[j]? = some d->d=c.back:=by
  intro ls em p hnd hls hno hd
  obtain ⟨T',k1,k2,k3,k4⟩:=cellsR_back (r := []) hT hN ls p (List.replicate 32 zTC) hnd hls List.length_replicate (by rw [List.append_nil];exact hd)
  refine ⟨T',?_,k2,fun j c d hc hdd=>?_⟩
  ·rw [k1]
   unfold finR
   dsimp only
   rw [if_neg (fun h=>h rfl),if_neg]
   rw [<-hd,List.length_drop]
   omega
  ·have hj:j<32:=by have:=(List.getElem?_eq_some_iff.1 hc).1;omega
   by_cases hm:(j:Int)∈ls
   ·have h:=k4 _ hm
    rw [Int.toNat_natCast,hc,hdd] at h
    have h:d=c.back:=Option.some.inj h
    exact h
   ·have h:=k3 j hm
    rw [hdd,List.getElem?_replicate,if_pos hj] at h
    have hz:d=zTC:=Option.some.inj h
    have hh:=hno j hj hm
    unfold hasT at hh
    rw [hc] at hh
    have hh:(!c.empty)=false:=hh
    have he:c.empty=true:=by simpa using hh
    have hb:c.back=zTC:=by unfold TC.back;rw [if_pos he]
    rw [hz,hb]
 unfold tileB at hs
 unfold tileR
 by_cases h3:k=3
 ·subst h3
  rw [if_pos (by decide)] at hs
  have hd:s.drop 0=uintB 3++(risingB (natsI (fullN T 32))++spB T (fullN T 32)):=by rw [List.drop_zero,← hs,List.append_assoc]
  have hR:=readU_uint hd (by decide)
  have hd2:=drop_app hd
  have hris:=fullN_rises T 32 (Nat.le_refl _)
  have hln:(natsI (fullN T 32)).length<=32:=by unfold natsI;rw [List.length_map];exact fullN_le T 32
  have hRi:=risingR_back hris hd2 hln (by decide)
  have hd3:=drop_app hd2
  rw [hR]
  dsimp only
  rw [if_neg (fun h=>h rfl),if_neg (by omega),if_pos rfl,hRi]
  dsimp only
  rw [if_neg (fun h=>h rfl)]
  refine hfin _ false _ (pair_nodup nats_pair) (fun x hx=>?_) (fun j hj hm=>?_) ?_
  ·obtain ⟨h1,h2,h4⟩:=mem_nats.1 hx
   exact ⟨h1,h2,.inr h4⟩
  ·cases hh:hasT T j with
   | false=>rfl
   | true=>exact absurd (mem_nats.2 ⟨by omega,by omega,by rw [Int.toNat_natCast];exact hh⟩) hm
  ·rw [hd3]
   unfold spB natsI
   rw [List.flatMap_map]
   rfl
 ·rw [if_neg (by omega),Int.toNat_natCast] at hs
  have hd:s.drop 0=uintB k++wrT T (k:Int) 32:=by rw [List.drop_zero,← hs]
  have hR:=readU_uint hd (by omega)
  have hd2:=drop_app hd
  rw [hR]
  dsimp only
  rw [if_neg (fun h=>h rfl),if_neg (by omega),if_neg h3]
  refine hfin (placesL k) true _ (places_nodup (by omega)) (fun x hx=>?_) (fun j hj hm=>absurd (places_all (by omega) hj) hm) ?_
  ·have:=placesL_at x hx
   obtain ⟨i,hi,rfl⟩:=List.mem_map.1 hx
   have:=placeN_lt (k:=(k:Int)) (List.mem_range.1 hi)
   exact ⟨by omega,by omega,.inl rfl⟩
  ·rw [hd2]
   unfold wrT placesL
   rw [List.flatMap_map]
   rfl
end Go.A
namespace Go.A
open Go.Proofs Go.Lib Go.Vint
def sC (s:List UInt8):TC:=if (parseR (s.take 60)).2.2=0 then ⟨(parseR (s.take 60)).1,none⟩ else if (failedP (inputP (s.take 60))).2=true then zTC else ⟨zNd,some (inputP (s.take 60))⟩
def sN (l:List (List UInt8)) (n:Nat):List TC:=(List.range n).foldl (fun T j=>T.set j (sC (l.getD j []))) (List.replicate 32 zTC)
theorem sN_succ (l:List (List UInt8)) (n:Nat):sN l (n+1)=(sN l n).set n (sC (l.getD n [])):=by
 unfold sN;rw [List.range_succ,List.foldl_append];rfl
theorem sN_len (l:List (List UInt8)):∀ n,(sN l n).length=32
 | 0=>List.length_replicate
 | n+1=>by rw [sN_succ,List.length_set];exact sN_len l n
theorem sN_at (l:List (List UInt8)):∀ (n j:Nat),j<32->(sN l n)[j]? = some (if j<n then sC (l.getD j []) else zTC)
 | 0,j,h=>by rw [if_neg (by omega)];show (List.replicate 32 zTC)[j]? = _;rw [List.getElem?_replicate,if_pos h]
 | n+1,j,h=>by
   rw [sN_succ]
   by_cases hj:j=n
   ·rw [hj,List.getElem?_set_self (by rw [sN_len];omega),if_pos (by omega)]
   ·rw [List.getElem?_set_ne (by omega),sN_at l n j h]
    by_cases h2:j<n
    ·rw [if_pos h2,if_pos (by omega)]
    ·rw [if_neg h2,if_neg (by omega)]
theorem inputP_text {s t:List UInt8} (h:inputP s = .text t):t.length<=s.length:=by
 unfold inputP at h
 split at h
 ·injection h with h;rw [<-h]
  unfold Lib.trimPrefix
  first
   | (split<;>first|(rw [List.length_drop];omega)|exact Nat.le_refl _)
   | (rw [List.length_drop];omega)
 ·split at h
  ·cases h
  ·split at h
   ·cases h
   split at h
   ·cases h
   split at h
   ·cases h
   split at h
   ·cases h
   ·injection h with h;rw [h];exact Nat.le_refl _
theorem inputP_good (s:List UInt8) (h:(failedP (inputP s)).2=false):(inputP s).good:=by
 generalize hv:inputP s=v at *
 cases v with
 | num n=>
   unfold inputP at hv
   split at hv
   ·cases hv
   ·split at hv
    ·rename_i hn;injection hv with hv;rw [<-hv];exact parseD_rng hn
    ·repeat' split at hv
     all_goals cases hv
 | fail n=>cases h
 | _=>trivial
def TC.ill (c:TC):Prop:=c.isF=false/\∃ t,c.val = .text t/\(sgT t).isSome=false
structure TC.half (c:TC):Prop where
 made:c.made
 plain:c.isF=false->c.t=zNd
 of:ofP (plOf c.val)=c.val\/c.ill
 deep:c.t.depth<=2101
theorem TC.half.neat {c:TC} (h:c.half) (hi:¬ c.ill):c.neat:=⟨h.made,h.plain,h.of.elim id fun h=>absurd h hi,h.deep⟩
theorem zTC_half:zTC.half:=⟨zTC_made,fun _=>rfl,.inl rfl,by decide⟩
theorem sC_half (s:List UInt8):(sC s).half:=by
 have h6:(s.take 60).length<=60:=by rw [List.length_take];omega
 unfold sC
 generalize s.take 60=s6 at *
 by_cases he:(parseR s6).2.2=0
 ·rw [if_pos he]
  have hn:=(parseR_nf he).1
  have hgd:=parseR_gd he
  have hsm:=parseR_small he
  have hsp:=nf_spell hn
  have hdp:=(parseR s6).1.depth_le_size
  have hst:(parseR s6).1.strs 2000:=nd_strs_mono (by omega) _ hsm.1
  have hst2:(parseR s6).1.strs 328:=nd_strs_mono (by omega) _ hsm.1
  have hwd:=nf_wd hn hst (by omega)
  have hb:=nd_bytes_le _ hwd hst2
  have h2:(328+60)*(parseR s6).1.size<=(328+60)*162:=Nat.mul_le_mul_left _ (by omega)
  have hop:0<(parseR s6).1.op:=by
   generalize (parseR s6).1=m at hn
   cases hn<;>simp only [Nd.op]<;>omega
  have hv:TC.val ⟨(parseR s6).1,none⟩ = .blank:=rfl
  have hf:TC.isF ⟨(parseR s6).1,none⟩=true:=by unfold TC.isF;rw [decide_eq_false (show ¬ (parseR s6).1.op=0 by omega)];rfl
  refine ⟨⟨⟨fun _=>hgd.1.1,fun _=>?_,trivial,trivial,by rw [hv];decide +kernel⟩,⟨fun _=>hwd,fun _=>?_,trivial,fun t h=>by rw [hv] at h;cases h⟩,hgd.2,by show 0<=(parseR s6).1.op;omega,fun _=>⟨hn,hop⟩⟩,fun h=>(by rw [hf] at h;cases h),.inl rfl,by show (parseR s6).1.depth<=2101;omega⟩
  ·show (parseR s6).1.spell.length<=_;have:=hgd.2;omega
  ·show (parseR s6).1.bytes.length<=_;omega
 rw [if_neg he]
 by_cases hf:(failedP (inputP s6)).2=true
 ·rw [if_pos hf];exact zTC_half
 rw [if_neg hf]
 have hg:=inputP_good s6 (by simpa using hf)
 have ht:∀ t,inputP s6 = .text t->t.length<=60:=fun t h=>Nat.le_trans (inputP_text h) h6
 generalize inputP s6=v at *
 have hv:TC.val ⟨zNd,some v⟩=v:=rfl
 have hz:TC.isF ⟨zNd,some v⟩=false:=rfl
 have hsmall:v.small:=by cases v with
  | text t=>have:=ht t rfl;show t.length<=100000;omega
  | _=>trivial
 have htyp:(typedP v).length<=100000:=by
  cases v with
  | text t=>
    have:=ht t rfl
    show (if inputP t = .text t then t else 39::t).length<=_
    split
    ·omega
    ·rw [List.length_cons];omega
  | num n=>
    have:=textD_len (a:=n) hg
    show (textD n).length<=_
    omega
  | blank=>decide
  | bool b=>cases b<;>decide
  | fail n=>exact absurd rfl hf
 refine ⟨⟨⟨fun h=>(by rw [hz] at h;cases h),fun h=>(by rw [hz] at h;cases h),hg,hsmall,htyp⟩,⟨fun h=>(by rw [hz] at h;cases h),fun h=>(by rw [hz] at h;cases h),hg,fun t h=>(by have:=ht t h;omega)⟩,by show zNd.size<=5000;decide,(show (0:Int)<=zNd.op by decide),fun h=>(by rw [hz] at h;cases h)⟩,fun _=>rfl,?_,by show zNd.depth<=2101;decide⟩
 rw [hv]
 by_cases hi:∃ t,v = .text t/\(sgT t).isSome=false
 ·exact .inr ⟨hz,hi⟩
 ·refine .inl (of_back v hg fun t h=>⟨?_,by have:=ht t h;omega⟩)
  cases hs:(sgT t).isSome with
  | true=>rfl
  | false=>exact absurd ⟨t,h,hs⟩ hi
theorem sN_half (l:List (List UInt8)) (n:Nat):∀ c∈sN l n,c.half:=fun c hc=>by
 obtain ⟨j,hj⟩:=List.getElem?_of_mem hc
 have hl:=sN_len l n
 rw [sN_at l n j (by have:=(List.getElem?_eq_some_iff.1 hj).1;omega)] at hj
 injection hj with hj
 rw [<-hj]
 split
 ·exact sC_half _
 ·exact zTC_half
theorem getV_ill {s r t:List UInt8} {p:Nat} (hd:s.drop p=putB (.text t)++r) (ht:t.length<=2000) (hs:(sgT t).isSome=false):(getV s p).2.1≠0:=by
 have hB:putB (.text t)=uintB 2++textB t:=rfl
 rw [hB,List.append_assoc] at hd
 have hR:=readU_uint hd (by decide)
 have hR2:=rtx_written (drop_app hd) ht (by omega)
 have ho:ofP ⟨2,0,t⟩ = .blank:=by
  unfold ofP
  dsimp only
  rw [if_neg (by decide),if_pos rfl,if_neg (by rw [hs];rintro ⟨h,_⟩;cases h)]
 unfold getV
 rw [hR]
 dsimp only
 rw [if_neg (fun h=>h rfl),if_neg (by decide),if_pos (by decide),hR2]
 dsimp only
 rw [if_neg (fun h=>h rfl)]
 unfold endV
 rw [ho,if_neg]
 ·exact (by decide:(3:Int)≠0)
 ·unfold eqPl plOf;simp
theorem ill_full {c:TC} (h:c.ill):c.empty=false:=by
 obtain ⟨_,t,ht,_⟩:=h
 unfold TC.empty
 rw [ht]
 simp
theorem getC_ill {s r:List UInt8} {p:Nat} {em:Bool} {c:TC} (hc:c.half) (hi:c.ill) (hd:s.drop p=c.bytes++r):(getC s p em).2.1≠0:=by
 have he:=ill_full hi
 obtain ⟨hf,t,ht,hs⟩:=hi
 have hb:c.bytes=uintB 1++putB (.text t):=by
  unfold TC.bytes
  rw [he,if_neg (by simp),hf,if_neg (by simp),ht]
 rw [hb,List.append_assoc] at hd
 have hR:=readU_uint hd (by decide)
 have hV:=getV_ill (drop_app hd) (hc.made.wf.short t ht) hs
 unfold getC
 rw [hR]
 dsimp only
 rw [if_neg (fun h=>h rfl),if_neg (by rintro (h|⟨h,_⟩)<;>omega),if_neg (by decide),if_neg (by decide)]
 unfold endC
 rw [if_pos hV]
 exact hV
theorem cellsR_ill {s r:List UInt8} {T:List TC} (hT:T.length=32) (hN:∀ c∈T,c.half) {em:Bool}:∀ (ls:List Int) (p:Nat) (T0:List TC),(∀ x∈ls,0<=x/\x<32/\(em=true\/hasT T x.toNat=true))->s.drop p=(ls.flatMap fun x=>cellB T x.toNat)++r->(∃ x∈ls,∃ c,T[x.toNat]? = some c/\c.ill)->(cellsR s em ls p T0).2.1≠0
 | [],p,T0,_,_,h=>by obtain ⟨x,hx,_⟩:=h;cases hx
 | i::ls,p,T0,hls,hd,hx=>by
   obtain ⟨hi0,hi1,hie⟩:=hls i List.mem_cons_self
   obtain ⟨c,hc⟩:∃ c,T[i.toNat]? = some c:=⟨_,List.getElem?_eq_getElem (by omega)⟩
   have hcn:=hN c (List.mem_of_getElem? hc)
   rw [List.flatMap_cons,cellB_at hc,List.append_assoc] at hd
   rw [cellsR,if_neg (by omega)]
   by_cases hci:c.ill
   ·have h:=getC_ill (em:=em) hcn hci hd
    rw [if_pos h];exact h
   ·have hce:em=true\/c.empty=false:=hie.imp id fun h=>by
     unfold hasT at h;rw [hc] at h
     have h:(!c.empty)=true:=h
     simpa using h
    rw [getC_back (hcn.neat hci) hce hd]
    dsimp only
    rw [if_neg (fun h=>h rfl)]
    refine cellsR_ill hT hN ls _ _ (fun x hx=>hls x (List.mem_cons_of_mem _ hx)) (drop_app hd) ?_
    obtain ⟨x,hx,d,hd2,hd3⟩:=hx
    rcases List.mem_cons.1 hx with rfl|hx
    ·rw [hc] at hd2
     injection hd2 with hd2
     rw [hd2] at hci
     exact absurd hd3 hci
    ·exact ⟨x,hx,d,hd2,hd3⟩
theorem tileR_ill {T:List TC} (hT:T.length=32) (hN:∀ c∈T,c.half) {k:Nat} (hk1:1<=k) (hk3:k<=3) (hx:∃ c∈T,c.ill):(tileR (tileB T (k:Int))).2.2≠0:=by
 obtain ⟨c,hc,hci⟩:=hx
 obtain ⟨j,hj⟩:=List.getElem?_of_mem hc
 have hj32:j<32:=by have:=(List.getElem?_eq_some_iff.1 hj).1;omega
 obtain ⟨s,hs⟩:∃ s,tileB T (k:Int)=s:=⟨_,rfl⟩
 rw [hs]
 have hfin:∀ (ls:List Int) (em:Bool) (p:Nat),(∀ x∈ls,0<=x/\x<32/\(em=true\/hasT T x.toNat=true))->(j:Int)∈ls->s.drop p=(ls.flatMap fun x=>cellB T x.toNat)->(finR s k (cellsR s em ls p (List.replicate 32 zTC))).2.2≠0:=by
  intro ls em p hls hm hd
  have h:=cellsR_ill (r := []) hT hN ls p (List.replicate 32 zTC) hls (by rw [List.append_nil];exact hd) ⟨j,hm,c,by rw [Int.toNat_natCast];exact hj,hci⟩
  unfold finR
  rw [if_pos h]
  exact h
 unfold tileB at hs
 unfold tileR
 by_cases h3:k=3
 ·subst h3
  rw [if_pos (by decide)] at hs
  have hd:s.drop 0=uintB 3++(risingB (natsI (fullN T 32))++spB T (fullN T 32)):=by rw [List.drop_zero,← hs,List.append_assoc]
  have hR:=readU_uint hd (by decide)
  have hd2:=drop_app hd
  have hris:=fullN_rises T 32 (Nat.le_refl _)
  have hln:(natsI (fullN T 32)).length<=32:=by unfold natsI;rw [List.length_map];exact fullN_le T 32
  have hRi:=risingR_back hris hd2 hln (by decide)
  have hd3:=drop_app hd2
  rw [hR]
  dsimp only
  rw [if_neg (fun h=>h rfl),if_neg (by omega),if_pos rfl,hRi]
  dsimp only
  rw [if_neg (fun h=>h rfl)]
  refine hfin _ false _ (fun x hx=>?_) (mem_nats.2 ⟨by omega,by omega,?_⟩) ?_
  ·obtain ⟨h1,h2,h4⟩:=mem_nats.1 hx
   exact ⟨h1,h2,.inr h4⟩
  ·rw [Int.toNat_natCast]
   unfold hasT
   rw [hj]
   show (!c.empty)=true
   rw [ill_full hci];rfl
  ·rw [hd3]
   unfold spB natsI
   rw [List.flatMap_map]
   rfl
 ·rw [if_neg (by omega),Int.toNat_natCast] at hs
  have hd:s.drop 0=uintB k++wrT T (k:Int) 32:=by rw [List.drop_zero,← hs]
  have hR:=readU_uint hd (by omega)
  have hd2:=drop_app hd
  rw [hR]
  dsimp only
  rw [if_neg (fun h=>h rfl),if_neg (by omega),if_neg h3]
  refine hfin (placesL k) true _ (fun x hx=>?_) (places_all (by omega) hj32) ?_
  ·obtain ⟨i,hi,rfl⟩:=List.mem_map.1 hx
   have:=placeN_lt (k:=(k:Int)) (List.mem_range.1 hi)
   exact ⟨by omega,by omega,.inl rfl⟩
  ·rw [hd2]
   unfold wrT placesL
   rw [List.flatMap_map]
   rfl
theorem back_fine {c:TC} (h:c.fine):c.back.fine:=by
 unfold TC.back
 split
 ·exact zTC_made.fine
 ·exact ⟨h.ok,h.sp,h.good,h.small,h.typ⟩
theorem back_text (c:TC):c.back.text=c.text:=by
 unfold TC.back
 by_cases h:c.empty=true
 ·rw [if_pos h]
  unfold TC.empty at h
  rw [Bool.and_eq_true,decide_eq_true_eq,decide_eq_true_eq] at h
  unfold TC.text
  have h1:c.isF=false:=by unfold TC.isF;rw [decide_eq_true h.1];rfl
  rw [h1,h.2]
  rfl
 ·rw [if_neg h];rfl
end Go.A
namespace Go.A
open Go.Proofs
/-! 32: tabular/tabulartop.signs -/
def c32_21:ACode := .seq (.ops [ oq 11 (.bin .lss (.t 10) (.t 9))]) (.seq (.cond (.t 11) .skip (.exit 0)) (.seq (.block 1 (.seq (.ops [ oq 12 (.ia 1 (.t 8) (.t 10)),oq 13 (.ld none (.t 12)),oq 4 (.mv (.t 13))]) (.seq (.ops [ oe 5 (.alloc [(.sl .full [])])]) (.seq (.ops [ oq 14 (.mv (.t 4)),oe 15 (.call 24 [(.t 14),(.v (.int .i64 60))]),oe 16 (.call 29 [(.t 15)]),oe 17 (.call 71 [(.t 5),(.t 16)])]) (.seq (.ops [ oe 19 (.call 43 [(.t 5)]),oe 20 (.call 52 [(.t 19)]),oe 21 (.call 72 [(.t 20)]),oq 18 (.mv (.t 21)),oq 22 (.ext 0 (.t 18)),oq 23 (.ext 1 (.t 18)),oq 6 (.mv (.t 22)),oq 7 (.mv (.t 23))]) (.seq (.ops [ oq 24 (.mv (.t 7)),oq 25 (.bin .neq (.t 24) (.v (.int .i64 0)))]) (.cond (.t 25) (.seq (.ops [ oq 2 (.mv (.v (.bool true)))]) .ret) .skip))))))) (.ops [ oq 26 (.bin .add (.t 10) (.v (.int .i64 1))),oq 10 (.mv (.t 26))])))
def c32_28:ACode := .seq (.ops [ oq 2 (.mv (.v (.bool false)))]) (.seq (.seq (.ops [ oq 8 (.mv (.t 0)),oq 9 (.len (.t 8)),oq 10 (.mv (.v (.int .i64 0)))]) (.block 0 (.loop c32_21))) (.seq (.ops [ oq 2 (.mv (.v (.bool false)))]) .ret))
@[go_sem] def c32_21_wp:=wp_of c32_21.eq_1
@[go_sem] def c32_28_wp:=wp_of c32_28.eq_1
def c32:AFn:=⟨27,[.t 2],c32_28⟩
theorem c32_ok:compF Tryz.prog Tryz.f32=some c32:=by kernel_rfl
theorem a32 {args:List AV} {σ:ASt} {R:AV->ASt->Prop} (hl:args.length<=27) (h:c32_28.wp Tryz.prog (RetQ [.t 2] R) (init args) σ):ACalls Tryz.prog 32 args σ R:=aFq Tryz.func32 c32_ok hl h
end Go.A
namespace Go.A
open Go.Proofs Go.Lib Go.Vint
theorem inputP_g (s:List UInt8):(inputP s).good:=by
 by_cases h:(failedP (inputP s)).2=true
 ·generalize hv:inputP s=v at *
  cases v with
  | fail n=>
    unfold inputP at hv
    split at hv
    ·cases hv
    ·split at hv
     ·cases hv
     ·split at hv
      ·cases hv
      split at hv
      ·cases hv
      split at hv
      ·cases hv
      split at hv
      ·rename_i i hi
       have h2:=errF_rng _ _ _ _ hi
       have h3:errV.length=7:=by decide
       injection hv with hv
       show 1<=n/\n<=7
       omega
      ·cases hv
  | _=>cases h
 ·exact inputP_good s (by simpa using h)
def illS (s:List UInt8):Prop:=(getV (putB (inputP (s.take 60))) 0).2.1≠0
set_option maxHeartbeats 2000000 in
theorem topsigns_ok {σ:ASt} (hU:U8 σ) (l:List (List UInt8)) {n:Nat} {s0:List UInt8} (hn:l[n]? = some s0) (hn32:n<32) (hi0:illS s0):ACalls Tryz.prog 32 [.sl .shr (l.map AV.str)] σ fun v σ'=>v = .bool true/\σ'=σ:=by
 have hll:((l.map AV.str).length:Int)=(l.length:Int):=by rw [List.length_map]
 have hnl:=(List.getElem?_eq_some_iff.1 hn).1
 refine a32 (by simp) ?_
 simp (disch:=first|assumption|omega) only [go_sem]
 refine wp_loop_by (fun (i:Nat) a s2=>i<=n/\(a 8 = .sl .shr (l.map AV.str)/\a 9 = .int .i64 l.length/\a 10 = .int .i64 i)/\s2=σ) (fun i=>l.length-i) 0 (Dr.now ⟨Nat.zero_le _,?_,rfl⟩) ?_
 ·simp (disch:=first|assumption|omega) only [go_sem]
 rintro i a1 s2 ⟨hi,hf,rfl⟩
 have hlt:i<l.length:=by omega
 have hlt':(i:Int)<(l.length:Int):=by omega
 obtain ⟨s,hs⟩:∃ s,l[i]? = some s:=⟨_,List.getElem?_eq_getElem hlt⟩
 have hx:(l.map AV.str)[i]? = some (.str s):=by rw [List.getElem?_map,hs];rfl
 have hC:=lcut_ok s 60
 have h60:(s.take 60).length<=60:=by rw [List.length_take];omega
 have hI:=input_ok (s.take 60) (by omega)
 have hg:=inputP_g (s.take 60)
 have ht:∀ t,inputP (s.take 60) = .text t->t.length<=2000:=fun t h=>by have:=inputP_text h;omega
 have hpl:=putB_le _ hg ht
 have hill:illS s=((getV (putB (inputP (s.take 60))) 0).2.1≠0):=rfl
 generalize s.take 60=s6 at *
 generalize inputP s6=v at *
 generalize l.map AV.str=LA at *
 simp (disch:=first|assumption|omega) only [go_sem,hf,hlt',hx]
 refine aBq fun w hw=>?_
 have hW0:=W.new hw
 simp (disch:=first|assumption|omega) only [go_sem]
 refine hC.use ?_
 simp (disch:=first|assumption|omega) only [go_sem]
 refine hI.use ?_
 simp (disch:=first|assumption|omega) only [go_sem]
 refine (vput_ok s2 w v [] _ hW0 hg ht (by simp)).mono ?_
 rintro r σ3 ⟨rfl,hW⟩
 rw [List.nil_append] at hW
 have hat:∀ (x:Nat) (R:Role),s2 x=some R->σ3 x=some R:=by
  obtain ⟨kk,hgk⟩:=hW
  intro x R hx
  refine hgk.at ?_
  rw [ASt.set_ne]
  ·exact hx
  ·rintro rfl;rw [hx] at hw;cases hw
 have D3:Drop σ3 s2:=by
  obtain ⟨kk,hgk⟩:=hW
  exact hgk.drop.trans (Drop.set hw)
 have hBy:=wbytes_ok s2 w (putB v) σ3 hW
 simp (disch:=first|assumption|omega) only [go_sem]
 refine hBy.mono ?_
 rintro r σ' ⟨rfl,rfl⟩
 simp (disch:=first|assumption|omega) only [go_sem]
 refine (rread_ok (putB v) _).mono ?_
 rintro r σ4 ⟨d,rfl,hd,rfl⟩
 have U3:U8 (σ'.set d (rd (putB v) 0 0)):=U8.set ⟨hat _ _ hU.1,hat _ _ hU.2⟩ hd
 have G:=vgetR_ok U3 (putB v) 0 d (ASt.set_same _ _ _) (by omega) (Nat.zero_le _)
 simp (disch:=first|assumption|omega) only [go_sem]
 refine G.mono ?_
 rintro r σ5 ⟨rfl,P,E,rfl,hPE⟩
 rw [ASt.set_set]
 have D4:Drop (σ'.set d (rd (putB v) P E)) s2:=(Drop.set hd).trans D3
 generalize getV (putB v) 0=g at *
 by_cases he:g.2.1=0
 ·have hin:i≠n:=by
   rintro rfl
   rw [hs] at hn
   injection hn with hn
   rw [<-hn,hill] at hi0
   exact hi0 he
  simp (disch:=first|assumption|omega) only [go_sem,he,hf]
  refine ⟨i+1,by dsimp only;omega,Dr.drop D4 ⟨by omega,?_,rfl⟩⟩
  simp (disch:=first|assumption|omega) only [go_sem,hf]
 ·simp (disch:=first|assumption|omega) only [go_sem,he]
  exact retC_by D4 (.refl _) ⟨rfl,rfl⟩
end Go.A
namespace Go.A
open Go.Proofs
/-! 60: tabular/check.Open -/
def c60_19:ACode := .seq (.ops [ oq 2 (.mv (.v (.str []))),oq 3 (.mv (.v (.bool false)))]) (.seq (.ops [ oq 7 (.mv (.t 0)),oq 8 (.lenS (.t 7)),oq 9 (.bin .sub (.t 8) (.v (.int .i64 4))),oq 4 (.mv (.t 9))]) (.seq (.seq (.ops [ oq 10 (.mv (.t 4)),oq 11 (.bin .lss (.t 10) (.v (.int .i64 0)))]) (.cond (.t 11) (.seq (.ops [ oq 2 (.mv (.v (.str []))),oq 3 (.mv (.v (.bool false)))]) .ret) .skip)) (.seq (.seq (.ops [ oq 13 (.mv (.t 0)),oq 14 (.mv (.t 4)),oq 15 (.slfrom (true,0) (.t 13) (.t 14)),oe 16 (.call 102 [(.t 15)]),oq 12 (.mv (.t 16)),oq 17 (.ext 0 (.t 12)),oq 18 (.ext 1 (.t 12)),oq 5 (.mv (.t 17)),oq 6 (.mv (.t 18))]) (.seq (.ops [ oq 19 (.mv (.t 5)),oq 20 (.mv (.t 0)),oq 21 (.mv (.t 4)),oq 22 (.slto (true,0) (.t 20) (.t 21)),oe 23 (.call 103 [(.t 22)]),oq 24 (.bin .neq (.t 19) (.t 23))]) (.cond (.t 24) (.seq (.ops [ oq 2 (.mv (.v (.str []))),oq 3 (.mv (.v (.bool false)))]) .ret) .skip))) (.seq (.ops [ oq 25 (.mv (.t 0)),oq 26 (.mv (.t 4)),oq 27 (.slto (true,0) (.t 25) (.t 26)),oq 2 (.mv (.t 27)),oq 3 (.mv (.v (.bool true)))]) .ret))))
@[go_sem] def c60_19_wp:=wp_of c60_19.eq_1
def c60:AFn:=⟨28,[.t 2,.t 3],c60_19⟩
theorem c60_ok:compF Tryz.prog Tryz.f60=some c60:=by kernel_rfl
theorem a60 {args:List AV} {σ:ASt} {R:AV->ASt->Prop} (hl:args.length<=28) (h:c60_19.wp Tryz.prog (RetQ [.t 2,.t 3] R) (init args) σ):ACalls Tryz.prog 60 args σ R:=aFq Tryz.func60 c60_ok hl h
/-! 61: tabular/check.Seal -/
def c61_3:ACode := .seq (.ops [ oq 2 (.mv (.v (.str [])))]) (.seq (.ops [ oq 3 (.mv (.t 0)),oq 4 (.mv (.t 0)),oe 5 (.call 103 [(.t 4)]),oe 6 (.call 104 [(.t 5)]),oq 7 (.bin .add (.t 3) (.t 6)),oq 2 (.mv (.t 7))]) .ret)
@[go_sem] def c61_3_wp:=wp_of c61_3.eq_1
def c61:AFn:=⟨8,[.t 2],c61_3⟩
theorem c61_ok:compF Tryz.prog Tryz.f61=some c61:=by kernel_rfl
theorem a61 {args:List AV} {σ:ASt} {R:AV->ASt->Prop} (hl:args.length<=8) (h:c61_3.wp Tryz.prog (RetQ [.t 2] R) (init args) σ):ACalls Tryz.prog 61 args σ R:=aFq Tryz.func61 c61_ok hl h
/-! 102: tabular/check.Get -/
def c102_9:ACode := .seq (.ops [ oq 2 (.mv (.v (.int .u32 0))),oq 3 (.mv (.v (.bool false)))]) (.seq (.seq (.ops [ oq 4 (.mv (.t 0)),oq 5 (.lenS (.t 4)),oq 6 (.bin .neq (.t 5) (.v (.int .i64 4)))]) (.cond (.t 6) (.seq (.ops [ oq 2 (.mv (.v (.int .u32 0))),oq 3 (.mv (.v (.bool false)))]) .ret) .skip)) (.seq (.ops [ oq 7 (.mv (.t 0)),oq 8 (.idx (.t 7) (.v (.int .i64 0))),oq 9 (.conv .u32 (.t 8)),oq 10 (.mv (.t 0)),oq 11 (.idx (.t 10) (.v (.int .i64 1))),oq 12 (.conv .u32 (.t 11)),oq 13 (.bin .shl (.t 12) (.v (.int .u64 8))),oq 14 (.bin .or (.t 9) (.t 13)),oq 15 (.mv (.t 0)),oq 16 (.idx (.t 15) (.v (.int .i64 2))),oq 17 (.conv .u32 (.t 16)),oq 18 (.bin .shl (.t 17) (.v (.int .u64 16))),oq 19 (.bin .or (.t 14) (.t 18)),oq 20 (.mv (.t 0)),oq 21 (.idx (.t 20) (.v (.int .i64 3))),oq 22 (.conv .u32 (.t 21)),oq 23 (.bin .shl (.t 22) (.v (.int .u64 24))),oq 24 (.bin .or (.t 19) (.t 23)),oq 2 (.mv (.t 24)),oq 3 (.mv (.v (.bool true)))]) .ret))
@[go_sem] def c102_9_wp:=wp_of c102_9.eq_1
def c102:AFn:=⟨25,[.t 2,.t 3],c102_9⟩
theorem c102_ok:compF Tryz.prog Tryz.f102=some c102:=by kernel_rfl
theorem a102 {args:List AV} {σ:ASt} {R:AV->ASt->Prop} (hl:args.length<=25) (h:c102_9.wp Tryz.prog (RetQ [.t 2,.t 3] R) (init args) σ):ACalls Tryz.prog 102 args σ R:=aFq Tryz.func102 c102_ok hl h
/-! 103: tabular/check.Sum -/
def c103_3:ACode := .seq (.ops [ oq 2 (.mv (.v (.int .u32 0)))]) (.seq (.ops [ oq 3 (.mv (.t 0)),oe 4 (.call 150 [(.v (.int .u32 0)),(.t 3)]),oq 2 (.mv (.t 4))]) .ret)
@[go_sem] def c103_3_wp:=wp_of c103_3.eq_1
def c103:AFn:=⟨5,[.t 2],c103_3⟩
theorem c103_ok:compF Tryz.prog Tryz.f103=some c103:=by kernel_rfl
theorem a103 {args:List AV} {σ:ASt} {R:AV->ASt->Prop} (hl:args.length<=5) (h:c103_3.wp Tryz.prog (RetQ [.t 2] R) (init args) σ):ACalls Tryz.prog 103 args σ R:=aFq Tryz.func103 c103_ok hl h
/-! 104: tabular/check.Put -/
def c104_3:ACode := .seq (.ops [ oq 2 (.mv (.v (.str [])))]) (.seq (.ops [ oq 3 (.mv (.t 0)),oq 4 (.conv .u8 (.t 3)),oq 5 (.mv (.t 0)),oq 6 (.bin .shr (.t 5) (.v (.int .u64 8))),oq 7 (.conv .u8 (.t 6)),oq 8 (.mv (.t 0)),oq 9 (.bin .shr (.t 8) (.v (.int .u64 16))),oq 10 (.conv .u8 (.t 9)),oq 11 (.mv (.t 0)),oq 12 (.bin .shr (.t 11) (.v (.int .u64 24))),oq 13 (.conv .u8 (.t 12)),oq 14 (.bsl 1 [(.t 4),(.t 7),(.t 10),(.t 13)]),oq 15 (.b2s (.t 14)),oq 2 (.mv (.t 15))]) .ret)
@[go_sem] def c104_3_wp:=wp_of c104_3.eq_1
def c104:AFn:=⟨16,[.t 2],c104_3⟩
theorem c104_ok:compF Tryz.prog Tryz.f104=some c104:=by kernel_rfl
theorem a104 {args:List AV} {σ:ASt} {R:AV->ASt->Prop} (hl:args.length<=16) (h:c104_3.wp Tryz.prog (RetQ [.t 2] R) (init args) σ):ACalls Tryz.prog 104 args σ R:=aFq Tryz.func104 c104_ok hl h
/-! 150: tabular/check.Add -/
def c150_12:ACode := .seq (.ops [ oq 12 (.bin .lss (.t 11) (.t 10))]) (.seq (.cond (.t 12) .skip (.exit 0)) (.seq (.block 1 (.seq (.ops [ oq 13 (.mv (.t 11)),oq 6 (.mv (.t 13))]) (.ops [ oq 14 (.mv (.t 5)),oq 15 (.mv (.t 1)),oq 16 (.mv (.t 6)),oq 17 (.idx (.t 15) (.t 16)),oe 18 (.call 189 [(.t 14),(.t 17)]),oq 5 (.mv (.t 18))]))) (.ops [ oq 19 (.bin .add (.t 11) (.v (.int .i64 1))),oq 11 (.mv (.t 19))])))
def c150_20:ACode := .seq (.ops [ oq 4 (.mv (.v (.int .u32 0)))]) (.seq (.ops [ oq 7 (.mv (.t 0)),oq 8 (.un .xor (.t 7)),oq 5 (.mv (.t 8))]) (.seq (.seq (.ops [ oq 9 (.mv (.t 1)),oq 10 (.lenS (.t 9)),oq 11 (.mv (.v (.int .i64 0)))]) (.block 0 (.loop c150_12))) (.seq (.ops [ oq 20 (.mv (.t 5)),oq 21 (.un .xor (.t 20)),oq 4 (.mv (.t 21))]) .ret)))
@[go_sem] def c150_12_wp:=wp_of c150_12.eq_1
@[go_sem] def c150_20_wp:=wp_of c150_20.eq_1
def c150:AFn:=⟨22,[.t 4],c150_20⟩
theorem c150_ok:compF Tryz.prog Tryz.f150=some c150:=by kernel_rfl
theorem a150 {args:List AV} {σ:ASt} {R:AV->ASt->Prop} (hl:args.length<=22) (h:c150_20.wp Tryz.prog (RetQ [.t 4] R) (init args) σ):ACalls Tryz.prog 150 args σ R:=aFq Tryz.func150 c150_ok hl h
/-! 189: tabular/check.step -/
def c189_7:ACode := .seq (.ops [ oq 4 (.mv (.v (.int .u32 0)))]) (.seq (.ops [ oq 5 (.mv (.t 0)),oq 6 (.mv (.t 1)),oq 7 (.conv .u32 (.t 6)),oq 8 (.bin .xor (.t 5) (.t 7)),oq 0 (.mv (.t 8))]) (.seq (.ops [ oq 9 (.mv (.t 0)),oq 10 (.bin .shr (.t 9) (.v (.int .u64 4))),oq 11 (.mv (.t 0)),oq 12 (.bin .and (.t 11) (.v (.int .u32 15))),oq 13 (.iaa 16 1 (.v (.ptr 3 0)) (.t 12)),oq 14 (.ld none (.t 13)),oq 15 (.bin .xor (.t 10) (.t 14)),oq 0 (.mv (.t 15))]) (.seq (.ops [ oq 16 (.mv (.t 0)),oq 17 (.bin .shr (.t 16) (.v (.int .u64 4))),oq 18 (.mv (.t 0)),oq 19 (.bin .and (.t 18) (.v (.int .u32 15))),oq 20 (.iaa 16 1 (.v (.ptr 3 0)) (.t 19)),oq 21 (.ld none (.t 20)),oq 22 (.bin .xor (.t 17) (.t 21)),oq 4 (.mv (.t 22))]) .ret)))
@[go_sem] def c189_7_wp:=wp_of c189_7.eq_1
def c189:AFn:=⟨23,[.t 4],c189_7⟩
theorem c189_ok:compF Tryz.prog Tryz.f189=some c189:=by kernel_rfl
theorem a189 {args:List AV} {σ:ASt} {R:AV->ASt->Prop} (hl:args.length<=23) (h:c189_7.wp Tryz.prog (RetQ [.t 4] R) (init args) σ):ACalls Tryz.prog 189 args σ R:=aFq Tryz.func189 c189_ok hl h
end Go.A
namespace Go.A
open Go.Proofs
def ckT:List Nat := [0,274646895,549293790,820201905,1098587580,1361435347,1640403810,1905808397,2197175160,2460548119,2722870694,2987750089,3280807620,3553878443,3811616794,4084100981]
def nibN (c:Nat):Nat:=(c / 16) ^^^ ckT.getD (c % 16) 0
def stepN (c:Nat) (b:UInt8):Nat:=nibN (nibN (c ^^^ b.toNat))
def addN (c:Nat) (l:List UInt8):Nat:=l.foldl stepN c
def ckN (l:List UInt8):Nat:=4294967295 ^^^ addN 4294967295 l
def le32 (v:Nat):List UInt8 := [UInt8.ofNat v,UInt8.ofNat (v / 256),UInt8.ofNat (v / 65536),UInt8.ofNat (v / 16777216)]
def of32 (l:List UInt8):Nat:=(l.getD 0 0).toNat+(l.getD 1 0).toNat*256+(l.getD 2 0).toNat*65536+(l.getD 3 0).toNat*16777216
theorem ckT_lt:∀ i<16,ckT.getD i 0<4294967296:=by decide
theorem xor_lt {x y:Nat} (hx:x<4294967296) (hy:y<4294967296):x ^^^ y<4294967296:=Nat.xor_lt_two_pow (n:=32) hx hy
theorem nibN_lt {c:Nat} (h:c<4294967296):nibN c<4294967296:=xor_lt (by omega) (ckT_lt _ (by omega))
theorem u8_lt' (b:UInt8):b.toNat<256:=b.toNat_lt
theorem stepN_lt {c:Nat} (h:c<4294967296) (b:UInt8):stepN c b<4294967296:=nibN_lt (nibN_lt (xor_lt h (by have:=u8_lt' b;omega)))
theorem addN_lt (l:List UInt8):∀ {c:Nat},c<4294967296->addN c l<4294967296:=by
 induction l with
 | nil=>intro c h;exact h
 | cons b l ih=>intro c h;exact ih (stepN_lt h b)
theorem ckN_lt (l:List UInt8):ckN l<4294967296:=xor_lt (by decide) (addN_lt l (by decide))
theorem addN_snoc (c:Nat) (l:List UInt8) (b:UInt8):addN c (l ++ [b])=stepN (addN c l) b:=by unfold addN;rw [List.foldl_append];rfl
theorem of_le32 {v:Nat} (h:v<4294967296):of32 (le32 v)=v:=by
 unfold of32 le32
 simp only [List.getD_cons_zero,List.getD_cons_succ,UInt8.toNat_ofNat']
 omega
theorem le32_len (v:Nat):(le32 v).length=4:=rfl
theorem of32_lt {l:List UInt8}:of32 l<4294967296:=by
 unfold of32
 have h0:=u8_lt' (l.getD 0 0)
 have h1:=u8_lt' (l.getD 1 0)
 have h2:=u8_lt' (l.getD 2 0)
 have h3:=u8_lt' (l.getD 3 0)
 omega
def xor32 (x y:Int):Int:=((BitVec.ofInt 32 x ^^^ BitVec.ofInt 32 y).toNat:Int)
def and32 (x y:Int):Int:=((BitVec.ofInt 32 x &&& BitVec.ofInt 32 y).toNat:Int)
def or32 (x y:Int):Int:=((BitVec.ofInt 32 x ||| BitVec.ofInt 32 y).toNat:Int)
theorem wrap_bv (v:BitVec 32):IntKind.wrap .u32 (v.toNat:Int)=v.toNat:=wrap_u32 (by omega) (by have:=v.isLt;omega)
@[go_sem high] theorem binI_xor32 {x y:Int}:binI .xor .u32 x y=some (.int .u32 (xor32 x y)):=by rw [binI_xor];exact congrArg (fun n=>some (AV.int .u32 n)) (wrap_bv _)
@[go_sem high] theorem binI_and32 {x y:Int}:binI .and .u32 x y=some (.int .u32 (and32 x y)):=by rw [binI_and];exact congrArg (fun n=>some (AV.int .u32 n)) (wrap_bv _)
@[go_sem high] theorem binI_or32 {x y:Int}:binI .or .u32 x y=some (.int .u32 (or32 x y)):=by rw [binI_or];exact congrArg (fun n=>some (AV.int .u32 n)) (wrap_bv _)
theorem bxor {x y:Nat} (hx:x<4294967296) (hy:y<4294967296):xor32 x y=(x ^^^ y:Nat):=by
 unfold xor32
 congr 1
 rw [BitVec.toNat_xor,BitVec.ofInt_natCast,BitVec.ofInt_natCast,BitVec.toNat_ofNat,BitVec.toNat_ofNat,Nat.mod_eq_of_lt hx,Nat.mod_eq_of_lt hy]
theorem band15 {x:Nat} (hx:x<4294967296):and32 x 15=(x % 16:Nat):=by
 unfold and32
 congr 1
 rw [BitVec.toNat_and,BitVec.ofInt_natCast,BitVec.toNat_ofNat,Nat.mod_eq_of_lt hx]
 exact Nat.and_two_pow_sub_one_eq_mod x 4
theorem bor {x y:Nat} (hx:x<4294967296) (hy:y<4294967296):or32 x y=(x ||| y:Nat):=by
 unfold or32
 congr 1
 rw [BitVec.toNat_or,BitVec.ofInt_natCast,BitVec.ofInt_natCast,BitVec.toNat_ofNat,BitVec.toNat_ofNat,Nat.mod_eq_of_lt hx,Nat.mod_eq_of_lt hy]
theorem or_add {x y k:Nat} (hx:x<2 ^ k):x ||| (y*2 ^ k)=x+y*2 ^ k:=by
 rw [Nat.or_comm,Nat.mul_comm,← Nat.two_pow_add_eq_or_of_lt hx,Nat.add_comm]
def ckAV:List AV:=ckT.map fun (n:Nat)=>AV.int .u32 (n:Int)
def CkT (σ:ASt):Prop:=σ 3=some (.fix ckAV)
theorem CkT.set {σ:ASt} {b:Nat} {r:Option Role} (h:CkT σ) (hb:σ b=none):CkT (σ.set b r):=by
 unfold CkT at *
 rw [ASt.set_ne]
 ·exact h
 ·rintro rfl;rw [h] at hb;cases hb
theorem ck_get {i:Nat} (h:i<16):ckAV[i]? = some (.int .u32 (ckT.getD i 0:Nat)):=by
 have hl:i<ckT.length:=h
 unfold ckAV
 rw [List.getElem?_map,List.getD_eq_getElem?_getD,List.getElem?_eq_getElem hl]
 rfl
theorem ckstep_ok {σ:ASt} (hσ:CkT σ) {c:Nat} (hc:c<4294967296) (b:UInt8):ACalls Tryz.prog 189 [.int .u32 c,.int .u8 b.toNat] σ fun v σ'=>v = .int .u32 (stepN c b:Nat)/\σ'=σ:=by
 unfold CkT at hσ
 have hb:=u8_lt' b
 have x1:=bxor hc (y:=b.toNat) (by omega)
 have l1:c ^^^ b.toNat<4294967296:=xor_lt hc (by omega)
 have hs:stepN c b=nibN (nibN (c ^^^ b.toNat)):=rfl
 rw [hs]
 generalize c ^^^ b.toNat=d at *
 have a1:=band15 l1
 have g1:=ck_get (i:=d % 16) (by omega)
 have t1:=ckT_lt (d % 16) (by omega)
 have y1:xor32 ((d / 16:Nat):Int) ((ckT.getD (d % 16) 0:Nat):Int)=(nibN d:Nat):=bxor (by omega) t1
 have l2:=nibN_lt l1
 have i1:d % 16<16:=by omega
 have q1:(d:Int) / 16=((d / 16:Nat):Int):=by omega
 generalize nibN d=f at *
 generalize d % 16=i at *
 generalize ckT.getD i 0=u at *
 generalize d / 16=v at *
 have a2:=band15 l2
 have g2:=ck_get (i:=f % 16) (by omega)
 have t2:=ckT_lt (f % 16) (by omega)
 have y2:xor32 ((f / 16:Nat):Int) ((ckT.getD (f % 16) 0:Nat):Int)=(nibN f:Nat):=bxor (by omega) t2
 have l3:=nibN_lt l2
 have i2:f % 16<16:=by omega
 have q2:(f:Int) / 16=((f / 16:Nat):Int):=by omega
 generalize nibN f=g at *
 generalize f % 16=j at *
 generalize ckT.getD j 0=u2 at *
 generalize f / 16=v2 at *
 refine a189 (by simp) ?_
 simp (disch:=first|assumption|omega) only [go_sem,hσ,x1,a1,q1,g1,y1,a2,q2,g2,y2,Int.toNat_natCast,Nat.zero_add]
 exact retC_by (.refl _) (.refl _) ⟨rfl,rfl⟩
theorem ckadd_ok {σ:ASt} (hσ:CkT σ) {c:Nat} (hc:c<4294967296) (s:List UInt8) (hs:s.length<=1000000000):ACalls Tryz.prog 150 [.int .u32 c,.str s] σ fun v σ'=>v = .int .u32 ((4294967295 ^^^ addN (4294967295 ^^^ c) s:Nat))/\σ'=σ:=by
 have hm:(if IntKind.signed .u32=true then -1 else IntKind.max .u32)=4294967295:=rfl
 have x1:xor32 4294967295 c=(4294967295 ^^^ c:Nat):=bxor (x:=4294967295) (by decide) hc
 have l1:4294967295 ^^^ c<4294967296:=xor_lt (by decide) hc
 have hx:∀ i:Nat,i<=s.length->4294967295 ^^^ addN (4294967295 ^^^ c) (s.take i)<4294967296:=fun i _=>xor_lt (by decide) (addN_lt _ l1)
 have ha:∀ i:Nat,addN (4294967295 ^^^ c) (s.take i)<4294967296:=fun i=>addN_lt _ l1
 refine a150 (by simp) ?_
 simp (disch:=first|assumption|omega) only [go_sem,hm,x1]
 refine wLq (fun (i:Nat) a1 s2=>i<=s.length/\(a1 1 = .str s/\a1 5 = .int .u32 ((addN (4294967295 ^^^ c) (s.take i):Nat))/\a1 10 = .int .i64 s.length/\a1 11 = .int .i64 i)/\s2=σ) (fun i=>s.length-i) 0 ⟨Nat.zero_le _,?_,rfl⟩ ?_
 ·rw [List.take_zero]
  have e0:addN (4294967295 ^^^ c) []=4294967295 ^^^ c:=rfl
  rw [e0]
  simp (disch:=first|assumption|omega) only [go_sem]
 rintro i a1 s2 ⟨hi,hf,rfl⟩
 by_cases hlt:i<s.length
 ·have hlt':(i:Int)<s.length:=by omega
  have hxx : s[i]? = some (s[i]'hlt) := List.getElem?_eq_getElem hlt
  have hst := ckstep_ok hσ (ha i) (s[i]'hlt)
  have hsn : stepN (addN (4294967295 ^^^ c) (s.take i)) (s[i]'hlt) = addN (4294967295 ^^^ c) (s.take (i + 1)) := by rw [List.take_succ_eq_append_getElem hlt, addN_snoc]
  rw [hsn] at hst
  generalize s[i]'hlt = y at *
  simp (disch:=first|assumption|omega) only [go_sem,hf,hlt',hxx]
  refine hst.mono ?_
  rintro v σ' ⟨rfl,rfl⟩
  simp (disch:=first|assumption|omega) only [go_sem,hf]
  refine ⟨i+1,by omega,by omega,?_,rfl⟩
  simp (disch:=first|assumption|omega) only [go_sem,hf]
 ·have hlt':¬ (i:Int)<s.length:=by omega
  obtain rfl:i=s.length:=by omega
  have ha:=ha s.length
  rw [List.take_of_length_le (Nat.le_refl _)] at hf ha
  have l2:4294967295 ^^^ addN (4294967295 ^^^ c) s<4294967296:=xor_lt (by decide) ha
  generalize addN (4294967295 ^^^ c) s=z at *
  have x2:xor32 4294967295 z=(4294967295 ^^^ z:Nat):=bxor (x:=4294967295) (by decide) ha
  simp (disch:=first|assumption|omega) only [go_sem,hf,hlt',hm,x2]
  exact retC_by (.refl _) (.refl _) ⟨rfl,rfl⟩
theorem cksum_ok {σ:ASt} (hσ:CkT σ) (s:List UInt8) (hs:s.length<=1000000000):ACalls Tryz.prog 103 [.str s] σ fun v σ'=>v = .int .u32 (ckN s:Nat)/\σ'=σ:=by
 have h:=ckadd_ok hσ (c:=0) (by decide) s hs
 have e:4294967295 ^^^ addN (4294967295 ^^^ 0) s=ckN s:=rfl
 rw [e] at h
 generalize ckN s=z at *
 refine a103 (by simp) ?_
 simp (disch:=first|assumption|omega) only [go_sem]
 refine h.mono ?_
 rintro v σ' ⟨rfl,rfl⟩
 simp (disch:=first|assumption|omega) only [go_sem]
 exact retC_by (.refl _) (.refl _) ⟨rfl,rfl⟩
theorem ckput_ok {v:Nat} (hv:v<4294967296):Pure Tryz.prog 104 [.int .u32 v] (.str (le32 v)):=by
 intro σ
 have e:∀ n:Nat,IntKind.wrap .u8 (n:Int)=((UInt8.ofNat n).toNat:Int):=fun n=>by rw [IntKind.wrap_u8,UInt8.toNat_ofNat'];omega
 have q1:(v:Int) / 256=((v / 256:Nat):Int):=by omega
 have q2:(v:Int) / 65536=((v / 65536:Nat):Int):=by omega
 have q3:(v:Int) / 16777216=((v / 16777216:Nat):Int):=by omega
 have hb : [AV.int .u8 ((UInt8.ofNat v).toNat:Int),.int .u8 ((UInt8.ofNat (v / 256)).toNat:Int),.int .u8 ((UInt8.ofNat (v / 65536)).toNat:Int),.int .u8 ((UInt8.ofNat (v / 16777216)).toNat:Int)]=bytesAV (le32 v):=rfl
 refine a104 (by simp) ?_
 have hwl:wellSz 1 (bytesAV (le32 v))=true:=rfl
 simp (disch:=first|assumption|omega) only [go_sem,e,q1,q2,q3,hb,hwl]
 exact retC_by (.refl _) (.refl _) ⟨rfl,rfl⟩
theorem ckget_ok {s:List UInt8} (hs:s.length=4):Pure Tryz.prog 102 [.str s] (.tuple [.int .u32 (of32 s:Nat),.bool true]):=by
 intro σ
 match s,hs with
 | [a,b,c,d],_=>
   have ha:=u8_lt' a
   have hb:=u8_lt' b
   have hc:=u8_lt' c
   have hd:=u8_lt' d
   have ho:of32 [a,b,c,d]=a.toNat+b.toNat*256+c.toNat*65536+d.toNat*16777216:=rfl
   rw [ho]
   generalize hna:a.toNat=na at *
   generalize hnb:b.toNat=nb at *
   generalize hnc:c.toNat=nc at *
   generalize hnd:d.toNat=nd at *
   obtain ⟨B,hB⟩:∃ B,B=nb*256:=⟨_,rfl⟩
   obtain ⟨C,hC⟩:∃ C,C=nc*65536:=⟨_,rfl⟩
   obtain ⟨D,hD⟩:∃ D,D=nd*16777216:=⟨_,rfl⟩
   rw [<-hB,← hC,← hD]
   have h1:na ||| B=na+B:=by rw [hB];exact or_add (k:=8) (by omega)
   have h2:(na+B) ||| C=na+B+C:=by rw [hC];exact or_add (k:=16) (by omega)
   have h3:(na+B+C) ||| D=na+B+C+D:=by rw [hD];exact or_add (k:=24) (by omega)
   have m1:(nb:Int)*256=(B:Int):=by omega
   have m2:(nc:Int)*65536=(C:Int):=by omega
   have m3:(nd:Int)*16777216=(D:Int):=by omega
   have o1:or32 na B=((na+B:Nat):Int):=by rw [bor (by omega) (by omega),h1]
   have o2:or32 (na+B:Nat) C=((na+B+C:Nat):Int):=by rw [bor (by omega) (by omega),h2]
   have o3:or32 (na+B+C:Nat) D=((na+B+C+D:Nat):Int):=by rw [bor (by omega) (by omega),h3]
   have l3:na+B+C+D<4294967296:=by omega
   have l2:na+B+C<4294967296:=by omega
   have l1:na+B<4294967296:=by omega
   have bl:B<4294967296/\C<4294967296/\D<4294967296:=by omega
   clear hB hC hD h1 h2 h3
   generalize hX:na+B=X at *
   generalize hY:X+C=Y at *
   generalize hZ:Y+D=Z at *
   obtain ⟨b1,b2,b3⟩:=bl
   refine a102 (by simp) ?_
   simp (disch:=first|assumption|omega) only [go_sem,hna,hnb,hnc,hnd,m1,o1,m2,o2,m3,o3]
   exact retC_by (.refl _) (.refl _) ⟨rfl,rfl⟩
theorem ckseal_ok {σ:ASt} (hσ:CkT σ) (s:List UInt8) (hs:s.length<=1000000000):ACalls Tryz.prog 61 [.str s] σ fun v σ'=>v = .str (s++le32 (ckN s))/\σ'=σ:=by
 have h1:=cksum_ok hσ s hs
 have h2:=ckput_ok (ckN_lt s)
 have hl:(le32 (ckN s)).length=4:=rfl
 generalize ckN s=z at *
 have hb:binS .add s (le32 z)=some (.str (s++le32 z)):=binS_add (by omega)
 refine a61 (by simp) ?_
 simp (disch:=first|assumption|omega) only [go_sem]
 refine h1.mono ?_
 rintro v σ' ⟨rfl,rfl⟩
 simp (disch:=first|assumption|omega) only [go_sem]
 refine h2.use ?_
 simp (disch:=first|assumption|omega) only [go_sem,hb]
 exact retC_by (.refl _) (.refl _) ⟨rfl,rfl⟩
def openP (s:List UInt8):List UInt8×Bool:=if s.length<4 then ([],false) else if of32 (s.drop (s.length-4))=ckN (s.take (s.length-4)) then (s.take (s.length-4),true) else ([],false)
theorem openP_seal (s:List UInt8):openP (s++le32 (ckN s))=(s,true):=by
 unfold openP
 have hl:(s++le32 (ckN s)).length=s.length+4:=by rw [List.length_append];rfl
 have e:s.length+4-4=s.length:=by omega
 rw [hl,if_neg (by omega),e,List.drop_left,List.take_left,of_le32 (ckN_lt s),if_pos rfl]
theorem ckopen_ok {σ:ASt} (hσ:CkT σ) (s:List UInt8) (hs:s.length<=1000000000):ACalls Tryz.prog 60 [.str s] σ fun v σ'=>v = .tuple [.str (openP s).1,.bool (openP s).2]/\σ'=σ:=by
 obtain ⟨q,hq⟩:∃ q,openP s=q:=⟨_,rfl⟩
 rw [hq]
 unfold openP at hq
 by_cases h:s.length<4
 ·rw [if_pos h] at hq
  subst hq
  have h':(s.length:Int)-4<0:=by omega
  refine a60 (by simp) ?_
  simp (disch:=first|assumption|omega) only [go_sem,h']
  exact retC_by (.refl _) (.refl _) ⟨rfl,rfl⟩
 ·rw [if_neg h] at hq
  obtain ⟨n,hn⟩:∃ n:Nat,s.length-4=n:=⟨_,rfl⟩
  have hsn:(s.length:Int)-4=n:=by omega
  rw [hn] at hq
  have hd:(s.drop n).length=4:=by rw [List.length_drop];omega
  have h1:=ckget_ok hd
  have h2:=cksum_ok hσ (s.take n) (by rw [List.length_take];omega)
  have hnl:(n:Int)<=s.length:=by omega
  have htk:s.take s.length=s:=List.take_of_length_le (Nat.le_refl _)
  have hl1:of32 (s.drop n)<4294967296:=of32_lt
  have hl2:=ckN_lt (s.take n)
  have hnn:¬ (n:Int)<0:=by omega
  by_cases g:of32 (s.drop n)=ckN (s.take n)
  ·rw [if_pos g] at hq
   subst hq
   rw [<-g] at h2
   generalize of32 (s.drop n)=z at *
   refine a60 (by simp) ?_
   simp (disch:=first|assumption|omega) only [go_sem,hsn,hnn,Int.toNat_natCast,htk]
   refine h1.use ?_
   simp (disch:=first|assumption|omega) only [go_sem,Int.toNat_natCast,List.drop_zero]
   refine h2.mono ?_
   rintro v σ' ⟨rfl,rfl⟩
   simp (disch:=first|assumption|omega) only [go_sem,Int.toNat_natCast,List.drop_zero]
   exact retC_by (.refl _) (.refl _) ⟨rfl,rfl⟩
  ·rw [if_neg g] at hq
   subst hq
   have g':¬ ((of32 (s.drop n):Nat):Int)=((ckN (s.take n):Nat):Int):=by omega
   generalize of32 (s.drop n)=z at *
   generalize ckN (s.take n)=y at *
   refine a60 (by simp) ?_
   simp (disch:=first|assumption|omega) only [go_sem,hsn,hnn,Int.toNat_natCast,htk]
   refine h1.use ?_
   simp (disch:=first|assumption|omega) only [go_sem,Int.toNat_natCast,List.drop_zero]
   refine h2.mono ?_
   rintro v σ' ⟨rfl,rfl⟩
   simp (disch:=first|assumption|omega) only [go_sem,g',Int.toNat_natCast,List.drop_zero]
   exact retC_by (.refl _) (.refl _) ⟨rfl,rfl⟩
end Go.A
namespace Go.A
open Go.Proofs
/-! 147: tabular/disk.word -/
def c147_7:ACode := .seq (.ops [ oq 2 (.mv (.v (.str [])))]) (.seq (.ops [ oe 3 (.alloc [(.int .u8 0),(.int .u8 0),(.int .u8 0),(.int .u8 0)])]) (.seq (.ops [ oq 4 (.sla 4 (.t 3)),oq 5 (.mv (.t 0)),oe 6 (.call 149 [(.t 4),(.t 5)])]) (.seq (.ops [ oq 7 (.sla 4 (.t 3)),oq 8 (.b2s (.t 7)),oq 2 (.mv (.t 8))]) .ret)))
@[go_sem] def c147_7_wp:=wp_of c147_7.eq_1
def c147:AFn:=⟨9,[.t 2],c147_7⟩
theorem c147_ok:compF Tryz.prog Tryz.f147=some c147:=by kernel_rfl
theorem a147 {args:List AV} {σ:ASt} {R:AV->ASt->Prop} (hl:args.length<=9) (h:c147_7.wp Tryz.prog (RetQ [.t 2] R) (init args) σ):ACalls Tryz.prog 147 args σ R:=aFq Tryz.func147 c147_ok hl h
/-! 149: tabular/vint.PutU32 -/
def c149_10:ACode := .seq (.ops [ oq 6 (.bin .lss (.t 5) (.v (.int .i64 4)))]) (.seq (.cond (.t 6) .skip (.exit 0)) (.seq (.block 1 (.seq (.ops [ oq 7 (.mv (.t 5)),oq 4 (.mv (.t 7))]) (.ops [ oq 8 (.mv (.t 0)),oq 9 (.mv (.t 4)),oq 10 (.mv (.t 1)),oq 11 (.mv (.t 4)),oq 12 (.bin .mul (.v (.int .i64 8)) (.t 11)),oq 13 (.bin .shr (.t 10) (.t 12)),oq 14 (.conv .u8 (.t 13)),oq 15 (.ia 1 (.t 8) (.t 9)),oz (.store 1 (.t 15) (.t 14))]))) (.ops [ oq 16 (.bin .add (.t 5) (.v (.int .i64 1))),oq 5 (.mv (.t 16))])))
def c149_13:ACode := .seq (.ops [ oq 5 (.mv (.v (.int .i64 0)))]) (.block 0 (.loop c149_10))
@[go_sem] def c149_10_wp:=wp_of c149_10.eq_1
@[go_sem] def c149_13_wp:=wp_of c149_13.eq_1
def c149:AFn:=⟨17,[],c149_13⟩
theorem c149_ok:compF Tryz.prog Tryz.f149=some c149:=by kernel_rfl
theorem a149 {args:List AV} {σ:ASt} {R:AV->ASt->Prop} (hl:args.length<=17) (h:c149_13.wp Tryz.prog (RetQ [] R) (init args) σ):ACalls Tryz.prog 149 args σ R:=aFq Tryz.func149 c149_ok hl h
end Go.A
namespace Go.A
open Go.Proofs
def spl {α:Type} (cs:List α) (o:Nat) (ys:List α):List α:=cs.take o++ys++cs.drop (o+ys.length)
theorem splice_spl (cs ys:List AV) (o:Nat):splice cs o ys.length ys=spl cs o ys:=rfl
theorem spl_len {α:Type} {cs ys:List α} {o:Nat} (h:o+ys.length<=cs.length):(spl cs o ys).length=cs.length:=by
 unfold spl
 rw [List.length_append,List.length_append,List.length_take,List.length_drop]
 omega
theorem spl_nil {α:Type} (cs:List α) (o:Nat):spl cs o []=cs:=by
 unfold spl
 rw [List.append_nil,List.length_nil,Nat.add_zero,List.take_append_drop]
theorem spl_step {α:Type} {cs ys:List α} {o i:Nat} {y:α} (h:o+ys.length<=cs.length) (hy:ys[i]? = some y):(spl cs o (ys.take i)).take (o+i) ++ [y]++(spl cs o (ys.take i)).drop (o+i+1)=spl cs o (ys.take (i+1)):=by
 obtain ⟨hi,rfl⟩:=List.getElem?_eq_some_iff.1 hy
 have e1:(cs.take o).length=o:=by rw [List.length_take];omega
 have e2:(ys.take i).length=i:=by rw [List.length_take];omega
 have e3:(ys.take (i+1)).length=i+1:=by rw [List.length_take];omega
 have e4:(cs.take o++ys.take i).length=o+i:=by rw [List.length_append,e1,e2]
 unfold spl
 rw [e2,e3]
 have a1:(cs.take o++ys.take i++cs.drop (o+i)).take (o+i)=cs.take o++ys.take i:=by rw [<-e4,List.take_left]
 have a2:(cs.take o++ys.take i++cs.drop (o+i)).drop (o+i+1)=cs.drop (o+(i+1)):=by rw [<-List.drop_drop,← e4,List.drop_left,e4,List.drop_drop];rfl
 rw [a1,a2,List.take_succ_eq_append_getElem hi,← List.append_assoc]
theorem w_ofNat (n:Nat):IntKind.wrap .u8 (n:Int)=((UInt8.ofNat n).toNat:Int):=by rw [IntKind.wrap_u8,UInt8.toNat_ofNat'];omega
theorem le32_get {v i:Nat} (h:i<4):(bytesAV (le32 v))[i]? = some (.int .u8 ((UInt8.ofNat (v / 2 ^ (8*i))).toNat:Int)):=by
 have:i=0\/i=1\/i=2\/i=3:=by omega
 rcases this with rfl|rfl|rfl|rfl
 ·show some _=some _
  rw [show v / 2 ^ (8*0)=v from by simp]
 all_goals rfl
theorem putU32_ok {σ:ASt} {B o n c:Nat} {cs:List AV} (hB:σ B=some (.obj cs)) (ho:o+4<=cs.length) (hn:4<=n) {v:Nat} (hv:v<4294967296) :
  ACalls Tryz.prog 149 [.msl B o n c,.int .u32 v] σ fun r σ'=>r = .tuple []/\σ'=σ.set B (some (.obj (spl cs o (bytesAV (le32 v))))):=by
 have bits:IntKind.bits .u32=32:=rfl
 have hl:(bytesAV (le32 v)).length=4:=rfl
 have hst:=fun i y=>spl_step (cs:=cs) (ys:=bytesAV (le32 v)) (o:=o) (i:=i) (y:=y) (by rw [hl];exact ho)
 have hlen:∀ i,(spl cs o ((bytesAV (le32 v)).take i)).length=cs.length:=fun i=>spl_len (by rw [List.length_take,hl];omega)
 refine a149 (by simp) ?_
 simp (disch:=first|assumption|omega) only [go_sem]
 refine wLq (fun (i:Nat) a1 s2=>i<=4/\(a1 0 = .msl B o n c/\a1 1 = .int .u32 v/\a1 5 = .int .i64 i)/\s2=σ.set B (some (.obj (spl cs o ((bytesAV (le32 v)).take i))))) (fun i=>4-i) 0 ⟨by omega,?_,?_⟩ ?_
 ·simp (disch:=first|assumption|omega) only [go_sem]
 ·rw [List.take_zero,spl_nil]
  funext x
  by_cases hx:x=B
  ·rw [hx,ASt.set_same,hB]
  ·rw [ASt.set_ne hx]
 rintro i a1 s2 ⟨hi,hf,rfl⟩
 by_cases hlt:i<4
 ·have hlt':(i:Int)<4:=by omega
  have g:=le32_get (v:=v) hlt
  have e8:(8*(i:Int)).toNat=8*i:=by omega
  have m8:8*i<=32:=by omega
  have p8:0<=8*(i:Int):=by omega
  have q:(v:Int) / 2 ^ (8*i)=((v / 2 ^ (8*i):Nat):Int):=by
   have:i=0\/i=1\/i=2\/i=3:=by omega
   rcases this with rfl|rfl|rfl|rfl<;>simp
  have hs:=hst i _ g
  have hw:=w_ofNat (v / 2 ^ (8*i))
  have hll:=hlen i
  have hle:o+i+1<=(spl cs o ((bytesAV (le32 v)).take i)).length:=by omega
  generalize spl cs o ((bytesAV (le32 v)).take i)=M1 at *
  have hin:(i:Int)<(n:Int):=by omega
  have ei:o+i*1=o+i:=by omega
  simp (disch:=first|assumption|omega) only [go_sem,hf,hlt',bits,e8,q,hw,Int.toNat_natCast,hle,hs,ASt.set_set]
  refine ⟨i+1,by omega,by omega,?_,rfl⟩
  simp (disch:=first|assumption|omega) only [go_sem,hf]
 ·have hlt':¬ (i:Int)<4:=by omega
  obtain rfl:i=4:=by omega
  rw [List.take_of_length_le (by omega)]
  simp (disch:=first|assumption|omega) only [go_sem,hf,hlt']
  exact retC_by (.refl _) (.refl _) ⟨rfl,rfl⟩
theorem dkword_ok {v:Nat} (hv:v<4294967296):Pure Tryz.prog 147 [.int .u32 v] (.str (le32 v)):=by
 intro σ
 refine a147 (by simp) ?_
 simp (disch:=first|assumption|omega) only [go_sem]
 refine aBq fun b hb=>?_
 have hp:=putU32_ok (σ:=σ.set b (some (.obj [.int .u8 0,.int .u8 0,.int .u8 0,.int .u8 0]))) (B:=b) (o:=0) (n:=4) (c:=4) (ASt.set_same _ _ _) (by decide) (by decide) hv
 have e:spl [AV.int .u8 0,.int .u8 0,.int .u8 0,.int .u8 0] 0 (bytesAV (le32 v))=bytesAV (le32 v):=rfl
 have et:(bytesAV (le32 v)).take 4=bytesAV (le32 v):=rfl
 rw [e,ASt.set_set] at hp
 simp (disch:=first|assumption|omega) only [go_sem]
 refine hp.mono ?_
 rintro r σ' ⟨rfl,rfl⟩
 have l4:4<=(le32 v).length:=Nat.le_refl _
 simp (disch:=first|assumption|omega) only [go_sem,List.drop_zero,et,l4]
 exact retC_by (Drop.set hb) (.refl _) ⟨rfl,rfl⟩
end Go.A
namespace Go.A
open Go.Proofs
/-! 98: (*tabular/disk.Disk).Room -/
def c98_3:ACode := .seq (.ops [ oq 2 (.mv (.v (.int .i64 0)))]) (.seq (.ops [ oq 3 (.mv (.t 0)),oq 4 (.nc (.t 3)),oq 5 (.fa 1 (.t 4)),oq 6 (.ld none (.t 5)),oq 7 (.mv (.t 0)),oq 10 (.mv (.t 0)),oq 11 (.nc (.t 10)),oq 12 (.fa 2 (.t 11)),oq 13 (.ld none (.t 12)),oq 14 (.len (.t 13)),⟨some 8,none,.e (.call 100 [(.t 7)]),[⟨none,.ld none (.t 5),6⟩,⟨none,.ld none (.t 12),13⟩]⟩,oq 9 (.bin .sub (.t 6) (.t 8)),oq 15 (.bin .add (.t 9) (.t 14)),oq 2 (.mv (.t 15))]) .ret)
@[go_sem] def c98_3_wp:=wp_of c98_3.eq_1
def c98:AFn:=⟨16,[.t 2],c98_3⟩
theorem c98_ok:compF Tryz.prog Tryz.f98=some c98:=by kernel_rfl
theorem a98 {args:List AV} {σ:ASt} {R:AV->ASt->Prop} (hl:args.length<=16) (h:c98_3.wp Tryz.prog (RetQ [.t 2] R) (init args) σ):ACalls Tryz.prog 98 args σ R:=aFq Tryz.func98 c98_ok hl h
/-! 99: (*tabular/disk.Disk).fail -/
def c99_16:ACode := .seq (.ops [ oq 4 (.mv (.v (.int .i64 0)))]) (.seq (.seq (.ops [ oq 5 (.mv (.t 1)),oq 6 (.nc (.t 5)),oq 7 (.ld none (.t 6)),oq 8 (.bin .eql (.t 7) (.v (.int .i64 0)))]) (.cond (.t 8) (.seq (.ops [ oq 9 (.mv (.t 1)),oq 10 (.nc (.t 9)),oz (.store 1 (.t 10) (.v (.int .i64 (-1))))]) (.seq (.ops [ oq 4 (.mv (.v (.int .i64 7)))]) .ret)) .skip)) (.seq (.seq (.ops [ oq 11 (.mv (.t 1)),oq 12 (.nc (.t 11)),oq 13 (.ld none (.t 12)),oq 14 (.bin .gtr (.t 13) (.v (.int .i64 0)))]) (.cond (.t 14) (.ops [ oq 15 (.mv (.t 1)),oq 16 (.nc (.t 15)),oq 17 (.ld none (.t 16)),oq 18 (.bin .sub (.t 17) (.v (.int .i64 1))),oq 19 (.nc (.t 15)),oz (.store 1 (.t 19) (.t 18))]) .skip)) (.seq (.ops [ oq 4 (.mv (.v (.int .i64 0)))]) .ret)))
@[go_sem] def c99_16_wp:=wp_of c99_16.eq_1
def c99:AFn:=⟨20,[.t 4],c99_16⟩
theorem c99_ok:compF Tryz.prog Tryz.f99=some c99:=by kernel_rfl
theorem a99 {args:List AV} {σ:ASt} {R:AV->ASt->Prop} (hl:args.length<=20) (h:c99_16.wp Tryz.prog (RetQ [.t 4] R) (init args) σ):ACalls Tryz.prog 99 args σ R:=aFq Tryz.func99 c99_ok hl h
/-! 100: (*tabular/disk.Disk).Count -/
def c100_3:ACode := .seq (.ops [ oq 2 (.mv (.v (.int .i64 0)))]) (.seq (.ops [ oq 3 (.mv (.t 0)),oq 4 (.nc (.t 3)),oq 5 (.fa 0 (.t 4)),oq 6 (.ld none (.t 5)),oq 7 (.len (.t 6)),oq 8 (.bin .quo (.t 7) (.v (.int .i64 512))),oq 2 (.mv (.t 8))]) .ret)
@[go_sem] def c100_3_wp:=wp_of c100_3.eq_1
def c100:AFn:=⟨9,[.t 2],c100_3⟩
theorem c100_ok:compF Tryz.prog Tryz.f100=some c100:=by kernel_rfl
theorem a100 {args:List AV} {σ:ASt} {R:AV->ASt->Prop} (hl:args.length<=9) (h:c100_3.wp Tryz.prog (RetQ [.t 2] R) (init args) σ):ACalls Tryz.prog 100 args σ R:=aFq Tryz.func100 c100_ok hl h
end Go.A
namespace Go.A
open Go.Proofs
structure Dsk where
 b:List UInt8
 most:Int
 free:List Nat
 isF:List Bool
 rl:Int
 wl:Int
 rd:Int
 pt:Int
def bodyB (p:Nat) (s:List UInt8):List UInt8:=le32 p++s++List.replicate (504-s.length) 0
def pageB (p:Nat) (s:List UInt8):List UInt8:=le32 (ckN (bodyB p s))++bodyB p s
def layP (b:List UInt8) (p:Nat) (s:List UInt8):List UInt8:=b.take (p*512)++pageB p s++b.drop ((p+1)*512)
theorem pageB_len {p:Nat} {s:List UInt8} (h:s.length<=504):(pageB p s).length=512:=by
 unfold pageB bodyB
 simp only [List.length_append,le32_len,List.length_replicate]
 omega
theorem layP_len {b:List UInt8} {p:Nat} {s:List UInt8} (h:s.length<=504) (hp:(p+1)*512<=b.length):(layP b p s).length=b.length:=by
 unfold layP
 rw [List.length_append,List.length_append,pageB_len h,List.length_take,List.length_drop]
 omega
structure Dsk.ok (D:Dsk):Prop where
 len:D.b.length=D.isF.length*512
 one:1<=D.isF.length
 most:D.isF.length<=D.most/\D.most<=60000
 free:∀ p∈D.free,p<D.isF.length
 few:D.free.length<=D.isF.length
 rl : -1<=D.rl/\D.rl<=1000000000
 wl : -1<=D.wl/\D.wl<=1000000000
 rd:0<=D.rd/\D.rd<=1000000000
 pt:0<=D.pt/\D.pt<=1000000000
def Dsk.cs (D:Dsk) (B cB:Nat) (fv:AV) (I cI:Nat):List AV := [.msl B 0 D.b.length cB,.int .i64 D.most,fv,.msl I 0 D.isF.length cI,.int .i64 D.rl,.int .i64 D.wl,.int .i64 D.rd,.int .i64 D.pt]
def freeV (l:List Nat):List AV:=l.map fun (n:Nat)=>AV.int .i64 (n:Int)
structure DM (σ0:ASt) (d:Nat) (D:Dsk) (σ:ASt) (B cB:Nat) (rB:List AV) (fv:AV) (F:Nat) (I cI:Nat) (rI:List AV):Prop where
 hd:σ d=some (.obj (D.cs B cB fv I cI))
 hB:σ B=some (.obj (bytesAV D.b++rB))
 hI:σ I=some (.obj (D.isF.map AV.bool++rI))
 cB:D.b.length<=cB/\rB.length=cB-D.b.length
 cI:D.isF.length<=cI/\rI.length=cI-D.isF.length
 hF:(D.free = []/\fv = .sl .full []/\F=d)\/∃ cF rF,fv = .msl F 0 D.free.length cF/\σ F=some (.obj (freeV D.free++rF))/\D.free.length<=cF/\rF.length=cF-D.free.length/\F≠d/\F≠B/\F≠I/\σ0 F=none
 n1:d≠B
 n2:d≠I
 n3:B≠I
 z1:σ0 d=none
 z2:σ0 B=none
 z3:σ0 I=none
 out:∀ x,x≠d->x≠B->x≠I->x≠F->σ0 x=σ x\/σ0 x=none
def DiskAt (σ0:ASt) (d:Nat) (D:Dsk) (σ:ASt):Prop:=∃ B cB rB fv F I cI rI,DM σ0 d D σ B cB rB fv F I cI rI
theorem DM.zF {σ0 σ:ASt} {d B cB F I cI:Nat} {D:Dsk} {rB rI:List AV} {fv:AV} (h:DM σ0 d D σ B cB rB fv F I cI rI):σ0 F=none:=by
 rcases h.hF with ⟨_,_,rfl⟩|⟨_,_,_,_,_,_,_,_,_,h2⟩
 ·exact h.z1
 ·exact h2
theorem DM.drop {σ0 σ:ASt} {d B cB F I cI:Nat} {D:Dsk} {rB rI:List AV} {fv:AV} (h:DM σ0 d D σ B cB rB fv F I cI rI):Drop σ σ0:=by
 intro x
 by_cases h1:x=d
 ·rw [h1];exact .inr h.z1
 by_cases h2:x=B
 ·rw [h2];exact .inr h.z2
 by_cases h3:x=I
 ·rw [h3];exact .inr h.z3
 by_cases h4:x=F
 ·rw [h4];exact .inr h.zF
 exact h.out x h1 h2 h3 h4
theorem DiskAt.drop {σ0 σ:ASt} {d:Nat} {D:Dsk} (h:DiskAt σ0 d D σ):Drop σ σ0:=by
 obtain ⟨B,cB,rB,fv,F,I,cI,rI,h⟩:=h
 exact h.drop
theorem DM.at {σ0 σ:ASt} {d B cB F I cI:Nat} {D:Dsk} {rB rI:List AV} {fv:AV} (h:DM σ0 d D σ B cB rB fv F I cI rI) {x:Nat} {r:Role} (hx:σ0 x=some r):σ x=some r:=by
 have hne:∀ y,σ0 y=none->x≠y:=fun y hy he=>by rw [he,hy] at hx;cases hx
 rcases h.out x (hne _ h.z1) (hne _ h.z2) (hne _ h.z3) (hne _ h.zF) with h1|h1
 ·rw [<-h1];exact hx
 ·rw [h1] at hx;cases hx
theorem DiskAt.at {σ0 σ:ASt} {d:Nat} {D:Dsk} (h:DiskAt σ0 d D σ) {x:Nat} {r:Role} (hx:σ0 x=some r):σ x=some r:=by
 obtain ⟨B,cB,rB,fv,F,I,cI,rI,h⟩:=h
 exact h.at hx
theorem DM.cells {σ0 σ:ASt} {d B cB F I cI:Nat} {D D':Dsk} {rB rI:List AV} {fv:AV} (h:DM σ0 d D σ B cB rB fv F I cI rI) (hb:D'.b=D.b) (hf:D'.free=D.free) (hi:D'.isF=D.isF):DM σ0 d D' (σ.set d (some (.obj (D'.cs B cB fv I cI)))) B cB rB fv F I cI rI:=by
 have hF:=h.hF
 refine ⟨ASt.set_same _ _ _,?_,?_,by rw [hb];exact h.cB,by rw [hi];exact h.cI,?_,h.n1,h.n2,h.n3,h.z1,h.z2,h.z3,?_⟩
 ·rw [ASt.set_ne (Ne.symm h.n1),hb];exact h.hB
 ·rw [ASt.set_ne (Ne.symm h.n2),hi];exact h.hI
 ·rcases hF with ⟨h1,h2,h3⟩|⟨cF,rF,h1,h2,h3,h4,h5,h6,h7,h8⟩
  ·exact .inl ⟨hf.trans h1,h2,h3⟩
  ·rw [hf];exact .inr ⟨cF,rF,h1,by rw [ASt.set_ne h5];exact h2,h3,h4,h5,h6,h7,h8⟩
 ·intro x h1 h2 h3 h4
  rw [ASt.set_ne h1];exact h.out x h1 h2 h3 h4
section
variable {σ0 σ:ASt} {d B cB F I cI:Nat} {D:Dsk} {rB rI:List AV} {fv:AV}
theorem dkcount_ok (h:DM σ0 d D σ B cB rB fv F I cI rI) (ho:D.ok):ACalls Tryz.prog 100 [.ptr d 0] σ fun v σ'=>v = .int .i64 D.isF.length/\σ'=σ:=by
 have hd:=h.hd
 have hl:=ho.len
 have hm:=ho.most
 unfold Dsk.cs at hd
 have e:((D.b.length:Nat):Int).tdiv 512=(D.isF.length:Int):=by
  rw [hl,Int.natCast_mul]
  exact Int.mul_tdiv_cancel _ (by decide)
 refine a100 (by simp) ?_
 simp (disch:=first|assumption|omega) only [go_sem,hd,e]
 exact retC_by (.refl _) (.refl _) ⟨rfl,rfl⟩
theorem dkroom_ok (h:DM σ0 d D σ B cB rB fv F I cI rI) (ho:D.ok):ACalls Tryz.prog 98 [.ptr d 0] σ fun v σ'=>v = .int .i64 (D.most-D.isF.length+D.free.length)/\σ'=σ:=by
 have hd:=h.hd
 have hm:=ho.most
 have hw:=ho.few
 have hc:=dkcount_ok h ho
 unfold Dsk.cs at hd
 rcases h.hF with ⟨h1,h2,_⟩|⟨cF,rF,h1,_⟩
 ·rw [h1]
  rw [h2] at hd
  refine a98 (by simp) ?_
  simp (disch:=first|assumption|omega) only [go_sem,hd]
  refine hc.mono ?_
  rintro v σ' ⟨rfl,rfl⟩
  simp (disch:=first|assumption|omega) only [go_sem,hd]
  exact retC_by (.refl _) (.refl _) ⟨rfl,rfl⟩
 ·rw [h1] at hd
  refine a98 (by simp) ?_
  simp (disch:=first|assumption|omega) only [go_sem,hd]
  refine hc.mono ?_
  rintro v σ' ⟨rfl,rfl⟩
  simp (disch:=first|assumption|omega) only [go_sem,hd]
  exact retC_by (.refl _) (.refl _) ⟨rfl,rfl⟩
def failD (l:Int):Int×Int:=if l=0 then (-1,7) else if 0<l then (l-1,0) else (l,0)
theorem dkfailW_ok (h:DM σ0 d D σ B cB rB fv F I cI rI) (ho:D.ok):ACalls Tryz.prog 99 [.ptr d 0,.ptr d 5] σ fun v σ'=>v = .int .i64 (failD D.wl).2/\σ'=σ.set d (some (.obj ({ D with wl:=(failD D.wl).1 }.cs B cB fv I cI))):=by
 have hd:=h.hd
 have hw:=ho.wl
 have hset:σ.set d (some (.obj (D.cs B cB fv I cI)))=σ:=by
  funext x
  by_cases hx:x=d
  ·rw [hx,ASt.set_same,hd]
  ·rw [ASt.set_ne hx]
 unfold Dsk.cs at hd hset ⊢
 unfold failD
 by_cases g:D.wl=0
 ·rw [if_pos g]
  refine a99 (by simp) ?_
  simp (disch:=first|assumption|omega) only [go_sem,hd,g]
  exact retC_by (.refl _) (.refl _) ⟨rfl,rfl⟩
 ·rw [if_neg g]
  by_cases g2:0<D.wl
  ·rw [if_pos g2]
   refine a99 (by simp) ?_
   simp (disch:=first|assumption|omega) only [go_sem,hd,g,g2]
   exact retC_by (.refl _) (.refl _) ⟨rfl,rfl⟩
  ·rw [if_neg g2]
   refine a99 (by simp) ?_
   simp (disch:=first|assumption|omega) only [go_sem,hd,g,g2]
   exact retC_by (.refl _) (.refl _) ⟨rfl,hset.symm⟩
end
end Go.A
namespace Go.A
open Go.Proofs
/-! 101: (*tabular/disk.Disk).lay -/
def c101_4:ACode := .ops [ oq 31 (.mv (.t 6)),oq 32 (.mv (.t 6)),oq 33 (.slfrom (false,1) (.t 32) (.v (.int .i64 4))),oq 34 (.b2s (.t 33)),oe 35 (.call 103 [(.t 34)]),oe 36 (.call 104 [(.t 35)]),oe 37 (.cpy (.t 31) (.t 36))]
def c101_8:ACode := .seq (.ops [ oq 7 (.mv (.t 0)),oq 8 (.nc (.t 7)),oq 9 (.fa 0 (.t 8)),oq 10 (.ld none (.t 9)),oq 11 (.mv (.t 1)),oq 12 (.bin .mul (.t 11) (.v (.int .i64 512))),oq 13 (.mv (.t 1)),oq 14 (.bin .add (.t 13) (.v (.int .i64 1))),oq 15 (.bin .mul (.t 14) (.v (.int .i64 512))),oq 16 (.sls (false,1) (.t 10) (.t 12) (.t 15)),oq 6 (.mv (.t 16))]) (.seq (.ops [ oq 17 (.mv (.t 6)),oq 18 (.slfrom (false,1) (.t 17) (.v (.int .i64 4))),oq 19 (.mv (.t 1)),oq 20 (.conv .u32 (.t 19)),oe 21 (.call 149 [(.t 18),(.t 20)])]) (.seq (.ops [ oq 22 (.mv (.t 6)),oq 23 (.slfrom (false,1) (.t 22) (.v (.int .i64 8))),oq 24 (.mv (.t 2)),oe 25 (.cpy (.t 23) (.t 24))]) (.seq (.ops [ oq 26 (.mv (.t 6)),oq 27 (.mv (.t 2)),oq 28 (.lenS (.t 27)),oq 29 (.bin .add (.v (.int .i64 8)) (.t 28)),oq 30 (.slfrom (false,1) (.t 26) (.t 29)),oz (.clr [(.int .u8 0)] (.t 30))]) c101_4)))
@[go_sem] def c101_4_wp:=wp_of c101_4.eq_1
@[go_sem] def c101_8_wp:=wp_of c101_8.eq_1
def c101:AFn:=⟨38,[],c101_8⟩
theorem c101_ok:compF Tryz.prog Tryz.f101=some c101:=by kernel_rfl
theorem a101 {args:List AV} {σ:ASt} {R:AV->ASt->Prop} (hl:args.length<=38) (h:c101_8.wp Tryz.prog (RetQ [] R) (init args) σ):ACalls Tryz.prog 101 args σ R:=aFq Tryz.func101 c101_ok hl h
end Go.A
namespace Go.A
open Go.Proofs
theorem kbytes_app (l m:List UInt8):bytesAV (l++m)=bytesAV l++bytesAV m:=by simp [bytesAV]
theorem kbytes_len (l:List UInt8):(bytesAV l).length=l.length:=by simp [bytesAV]
theorem mem_spl {l x y z ys:List UInt8} {r:List AV} {o:Nat} (h:l=x++y++z) (hy:y.length=ys.length) (ho:x.length=o):spl (bytesAV l++r) o (bytesAV ys)=bytesAV (x++ys++z)++r:=by
 subst ho h
 unfold spl
 rw [kbytes_len,kbytes_app,kbytes_app,kbytes_app,kbytes_app]
 have e1:(bytesAV x++bytesAV y++bytesAV z++r).take x.length=bytesAV x:=by
  rw [List.append_assoc,List.append_assoc,← kbytes_len x,List.take_left]
 have e2:(bytesAV x++bytesAV y++bytesAV z++r).drop (x.length+ys.length)=bytesAV z++r:=by
  have hl:x.length+ys.length=(bytesAV x++bytesAV y).length:=by rw [List.length_append,kbytes_len,kbytes_len,hy]
  rw [hl,List.append_assoc (bytesAV x++bytesAV y),List.drop_left]
 rw [e1,e2]
 simp only [List.append_assoc]
theorem mem_get {l x y z:List UInt8} {r:List AV} {o n:Nat} (h:l=x++y++z) (ho:x.length=o) (hn:y.length=n):((bytesAV l++r).drop o).take n=bytesAV y:=by
 subst ho hn h
 rw [kbytes_app,kbytes_app]
 have e1:(bytesAV x++bytesAV y++bytesAV z++r).drop x.length=bytesAV y++(bytesAV z++r):=by
  rw [List.append_assoc,List.append_assoc,← kbytes_len x,List.drop_left]
 rw [e1,← kbytes_len y,List.take_left]
theorem slV_end {s b o n c:Nat} {lo hi:Int} (h0:0<=lo) (h1:lo<=hi) (h2:hi<=c) (h3:lo=c):slV (false,s) (.msl b o n c) lo hi=some (.msl b o (hi.toNat-lo.toNat) (c-lo.toNat)):=by
 unfold slV
 rw [if_neg (by omega)]
 dsimp only
 rw [if_pos h2,if_pos h3]
section
variable {σ0 σ:ASt} {d B cB F I cI:Nat} {D:Dsk} {rB rI:List AV} {fv:AV}
set_option maxHeartbeats 1000000 in
theorem dklay_ok (hT:CkT σ) (h:DM σ0 d D σ B cB rB fv F I cI rI) (ho:D.ok) {p:Nat} (hp:p<D.isF.length) {s:List UInt8} (hs:s.length<=504) :
  ACalls Tryz.prog 101 [.ptr d 0,.int .i64 p,.str s] σ fun v σ'=>v = .tuple []/\σ'=σ.set B (some (.obj (bytesAV (layP D.b p s)++rB))):=by
 have hd:=h.hd
 have hB:=h.hB
 have hm:=ho.most
 have hbl:=ho.len
 obtain ⟨hc1,hc2⟩:=h.cB
 have hdB:d≠B:=h.n1
 unfold Dsk.cs at hd
 unfold CkT at hT
 have hgB:3≠B:=by rintro he;rw [<-he,hT] at hB;cases hB
 have hCk:∀ r,CkT (σ.set B r):=fun r=>by unfold CkT;rw [ASt.set_ne hgB];exact hT
 obtain ⟨P,hP⟩:∃ P,P=p*512:=⟨_,rfl⟩
 have hP2:(p+1)*512=P+512:=by omega
 have hPn:P+512<=D.b.length:=by
  rw [hbl,← hP2]
  exact Nat.mul_le_mul_right _ hp
 obtain ⟨A,hA⟩:∃ A,A=D.b.take P:=⟨_,rfl⟩
 obtain ⟨C,hC⟩:∃ C,C=D.b.drop (P+512):=⟨_,rfl⟩
 obtain ⟨pg,hpg⟩:∃ pg,pg=(D.b.drop P).take 512:=⟨_,rfl⟩
 have hAl:A.length=P:=by rw [hA,List.length_take];omega
 have hpl:pg.length=512:=by rw [hpg,List.length_take,List.length_drop];omega
 have hbe:D.b=A++pg++C:=by
  rw [hA,hpg,hC,List.append_assoc,← List.drop_drop,List.take_append_drop,List.take_append_drop]
 have hlay:layP D.b p s=A++pageB p s++C:=by
  unfold layP
  rw [<-hP,hP2,← hA,← hC]
 rw [hlay]
 obtain ⟨w,hw⟩:∃ w,w=le32 p:=⟨_,rfl⟩
 have hwl:w.length=4:=by rw [hw];rfl
 obtain ⟨Z,hZ⟩:∃ Z,Z=List.replicate (504-s.length) (0:UInt8):=⟨_,rfl⟩
 have hZl:Z.length=504-s.length:=by rw [hZ,List.length_replicate]
 have hbody:bodyB p s=w++s++Z:=by rw [hw,hZ];rfl
 have hpage:pageB p s=le32 (ckN (w++s++Z))++(w++s++Z):=by unfold pageB;rw [hbody]
 rw [hpage]
 have hsl:=ckN_lt (w++s++Z)
 have hsumm:∀ τ,CkT τ->ACalls Tryz.prog 103 [.str (w++s++Z)] τ fun v σ'=>v = .int .u32 (ckN (w++s++Z):Nat)/\σ'=τ:=fun τ hτ=>cksum_ok hτ _ (by simp only [List.length_append];omega)
 have hput:=ckput_ok hsl
 obtain ⟨u,hu⟩:∃ u,u=le32 (ckN (w++s++Z)):=⟨_,rfl⟩
 have hul:u.length=4:=by rw [hu];rfl
 rw [<-hu] at hput ⊢
 have d4:pg=pg.take 4++(pg.drop 4).take 4++pg.drop 8:=by
  have e:pg.drop 8=(pg.drop 4).drop 4:=by rw [List.drop_drop]
  rw [e,List.append_assoc,List.take_append_drop,List.take_append_drop]
 obtain ⟨P0,hP0⟩:∃ P0,P0=pg.take 4:=⟨_,rfl⟩
 obtain ⟨P1,hP1⟩:∃ P1,P1=(pg.drop 4).take 4:=⟨_,rfl⟩
 obtain ⟨R,hR⟩:∃ R,R=pg.drop 8:=⟨_,rfl⟩
 rw [<-hP0,← hP1,← hR] at d4
 have l0:P0.length=4:=by rw [hP0,List.length_take];omega
 have l1:P1.length=4:=by rw [hP1,List.length_take,List.length_drop];omega
 have l2:R.length=504:=by rw [hR,List.length_drop];omega
 have l3:(R.take s.length).length=s.length:=by rw [List.length_take];omega
 have l4:(R.drop s.length).length=504-s.length:=by rw [List.length_drop];omega
 have m1:spl (bytesAV D.b++rB) (P+4) (bytesAV w)=bytesAV ((A++P0)++w++(R++C))++rB:=
  mem_spl (y:=P1) (by rw [hbe,d4];simp only [List.append_assoc]) (by omega) (by rw [List.length_append];omega)
 have m2:spl (bytesAV ((A++P0)++w++(R++C))++rB) (P+8) (bytesAV s)=bytesAV ((A++P0++w)++s++(R.drop s.length++C))++rB:=
  mem_spl (y:=R.take s.length) (by
   have e:R=R.take s.length++R.drop s.length:=(List.take_append_drop _ _).symm
   conv=>lhs;rw [e]
   simp only [List.append_assoc]) l3 (by simp only [List.length_append];omega)
 have m3:spl (bytesAV ((A++P0++w)++s++(R.drop s.length++C))++rB) (P+(8+s.length)) (bytesAV Z)=bytesAV ((A++P0++w++s)++Z++C)++rB:=
  mem_spl (y:=R.drop s.length) (by simp only [List.append_assoc]) (by omega) (by simp only [List.length_append];omega)
 have m4:((bytesAV ((A++P0++w++s)++Z++C)++rB).drop (P+4)).take 508=bytesAV (w++s++Z):=
  mem_get (x:=A++P0) (z:=C) (by simp only [List.append_assoc]) (by rw [List.length_append];omega) (by simp only [List.length_append];omega)
 have m5:spl (bytesAV ((A++P0++w++s)++Z++C)++rB) P (bytesAV u)=bytesAV (A++(u++(w++s++Z))++C)++rB:=by
  rw [mem_spl (x:=A) (y:=P0) (z:=w++s++Z++C) (by simp only [List.append_assoc]) (by omega) hAl]
  congr 2
  simp only [List.append_assoc]
 have t0:(bytesAV D.b++rB).length=cB:=by rw [List.length_append,kbytes_len];omega
 have t1:(bytesAV ((A++P0)++w++(R++C))++rB).length=cB:=by rw [<-m1,spl_len (by rw [kbytes_len,hwl,t0];omega)];exact t0
 have t2:(bytesAV ((A++P0++w)++s++(R.drop s.length++C))++rB).length=cB:=by rw [<-m2,spl_len (by rw [kbytes_len,t1];omega)];exact t1
 have t3:(bytesAV ((A++P0++w++s)++Z++C)++rB).length=cB:=by rw [<-m3,spl_len (by rw [kbytes_len,hZl,t2];omega)];exact t2
 have hput1:=putU32_ok (B:=B) (o:=P+4) (n:=508) (c:=cB-P-4) (v:=p) hB (by omega) (by omega) (by omega)
 rw [<-hw,m1] at hput1
 have hZa:(List.replicate (512-(8+s.length)) [AV.int .u8 0]).flatten=bytesAV Z:=by
  rw [hZ]
  have e:512-(8+s.length)=504-s.length:=by omega
  rw [e]
  generalize 504-s.length=k
  induction k with
  | zero=>rfl
  | succ k ih=>rw [List.replicate_succ,List.flatten_cons,ih,List.replicate_succ];rfl
 have hZn:(bytesAV Z).length=512-(8+s.length):=by rw [kbytes_len,hZl];omega
 have hst:s.take 504=s:=List.take_of_length_le hs
 have hut:u.take 512=u:=List.take_of_length_le (by omega)
 have hbs:(bytesAV s).length=s.length:=kbytes_len s
 have hbu:(bytesAV u).length=u.length:=kbytes_len u
 generalize bytesAV ((A++P0)++w++(R++C))++rB=M1 at *
 generalize bytesAV ((A++P0++w)++s++(R.drop s.length++C))++rB=M2 at *
 generalize bytesAV ((A++P0++w++s)++Z++C)++rB=M3 at *
 generalize bytesAV (A++(u++(w++s++Z))++C)++rB=M4 at *
 generalize bytesAV D.b++rB=M0 at *
 generalize hbody':w++s++Z=body at *
 clear hbe hlay hpage hbody d4 hA hC hpg hP0 hP1 hR hZ hw hu l0 l1 l2 l3 l4
 have e1:((p:Int)*512).toNat=P:=by omega
 have e2:(((p:Int)+1)*512).toNat=P+512:=by omega
 have e4:(8+(s.length:Int)).toNat=8+s.length:=by omega
 have q0:0<=(p:Int)*512:=by omega
 have q1:(p:Int)*512<=((p:Int)+1)*512:=by omega
 have q2:((p:Int)+1)*512<=(cB:Int):=by omega
 have q3:(p:Int)*512<(cB:Int):=by omega
 obtain ⟨L,hL⟩:∃ L:Nat,L=512:=⟨_,rfl⟩
 have hLi:(L:Int)=512:=by omega
 have e3:P+512-P=L:=by omega
 obtain ⟨c1,hc1'⟩:∃ c,c=cB-P:=⟨_,rfl⟩
 rw [<-hc1'] at hput1
 have hcP:=hc1'.symm
 have hpb:(p:Int)<=60000:=by omega
 have z0:0+P*1=P:=by omega
 refine a101 (by simp) ?_
 simp (disch:=first|assumption|omega) only [go_sem,hd,e1,e2,e3,hcP,hLi,Nat.zero_add]
 refine hput1.mono ?_
 rintro v σ1 ⟨rfl,rfl⟩
 have c504:(504:Nat)<=c1:=by omega
 simp (disch:=first|assumption|omega) only [go_sem,hLi]
 refine cpyC_by (ASt.set_same _ _ _) (by omega) ?_
 rw [hst,← hbs,splice_spl,m2,ASt.set_set]
 have hfin:∀ a1:AFr,a1 6 = .msl B P L c1->ACode.wp Tryz.prog c101_4 (RetQ [] fun v σ'=>v=AV.tuple []/\σ'=σ.set B (some (Role.obj M4))) a1 (σ.set B (some (Role.obj M3))):=by
  intro a1 h6
  have hs3:=hsumm _ (hCk (some (.obj M3)))
  have r8:P+4+508<=M3.length:=by omega
  simp (disch:=first|assumption|omega) only [go_sem,h6,hLi,m4,r8]
  refine hs3.mono ?_
  rintro v σ1 ⟨rfl,rfl⟩
  simp (disch:=first|assumption|omega) only [go_sem]
  refine hput.use ?_
  simp (disch:=first|assumption|omega) only [go_sem]
  refine cpyC_by (ASt.set_same _ _ _) (by omega) ?_
  rw [hL,hut,← hbu,splice_spl,m5,ASt.set_set]
  simp (disch:=first|assumption|omega) only [go_sem]
  exact retC_by (.refl _) (.refl _) ⟨rfl,rfl⟩
 obtain ⟨F4,hF4⟩:∃ F,F=ACode.wp Tryz.prog c101_4:=⟨_,rfl⟩
 have b8:8+(s.length:Int)<=512:=by omega
 have b512:(512:Int)<=(c1:Int):=by omega
 have b0:0<=8+(s.length:Int):=by omega
 by_cases g:8+s.length<c1
 ·have g':8+(s.length:Int)<(c1:Int):=by omega
  simp (disch:=first|assumption|omega) only [go_sem,e4,hLi]
  refine clrC_by (ASt.set_same _ _ _) rfl (by simp only [List.length_singleton];omega) ?_
  have hnn:(512-(8+s.length)) * [AV.int .u8 0].length=(bytesAV Z).length:=by rw [hZn,List.length_singleton,Nat.mul_one]
  rw [hZa,hnn,splice_spl,m3,ASt.set_set]
  simp (disch:=first|assumption|omega) only [go_sem,←hF4]
  rw [hF4]
  refine hfin _ ?_
  simp (disch:=first|assumption|omega) only [go_sem]
 ·have hc:c1=512:=by omega
  have hl504:s.length=504:=by omega
  have hse:slV (false,1) (AV.msl B P L c1) (8+(s.length:Int)) 512=some (.msl B P 0 0):=by
   rw [slV_end b0 b8 b512 (by omega)]
   have x1:(512:Int).toNat-(8+(s.length:Int)).toNat=0:=by omega
   have x2:c1-(8+(s.length:Int)).toNat=0:=by omega
   rw [x1,x2]
  have hZ0:bytesAV Z = []:=List.eq_nil_of_length_eq_zero (by rw [hZn];omega)
  rw [hZ0,spl_nil] at m3
  simp (disch:=first|assumption|omega) only [go_sem,hLi,hse]
  refine clrC_by (ASt.set_same _ _ _) rfl (by simp only [List.length_singleton];omega) ?_
  have hnn:(List.replicate 0 [AV.int .u8 0]).flatten = []:=rfl
  have hs0:splice M2 P (0 * [AV.int .u8 0].length) []=M2:=by rw [Nat.zero_mul];exact spl_nil M2 P
  rw [hnn,hs0,m3,ASt.set_set]
  simp (disch:=first|assumption|omega) only [go_sem,←hF4]
  rw [hF4]
  refine hfin _ ?_
  simp (disch:=first|assumption|omega) only [go_sem]
theorem DM.lay (h:DM σ0 d D σ B cB rB fv F I cI rI) {b':List UInt8} (hl:b'.length=D.b.length):DM σ0 d { D with b:=b' } (σ.set B (some (.obj (bytesAV b'++rB)))) B cB rB fv F I cI rI:=by
 have hF:=h.hF
 refine ⟨?_,ASt.set_same _ _ _,?_,by rw [hl];exact h.cB,h.cI,?_,h.n1,h.n2,h.n3,h.z1,h.z2,h.z3,?_⟩
 ·rw [ASt.set_ne h.n1,h.hd]
  unfold Dsk.cs
  rw [hl]
 ·rw [ASt.set_ne (Ne.symm h.n3)];exact h.hI
 ·rcases hF with ⟨h1,h2,h3⟩|⟨cF,rF,h1,h2,h3,h4,h5,h6,h7,h8⟩
  ·exact .inl ⟨h1,h2,h3⟩
  ·exact .inr ⟨cF,rF,h1,by rw [ASt.set_ne h6];exact h2,h3,h4,h5,h6,h7,h8⟩
 ·intro x h1 h2 h3 h4
  rw [ASt.set_ne h2];exact h.out x h1 h2 h3 h4
end
end Go.A
namespace Go.A
open Go.Proofs
/-! 97: (*tabular/disk.Disk).Flush -/
def c97_15:ACode := .seq (.ops [ oq 2 (.mv (.v (.int .i64 0)))]) (.seq (.seq (.ops [ oq 4 (.mv (.t 0)),oq 5 (.mv (.t 0)),oq 6 (.nc (.t 5)),oq 7 (.fa 5 (.t 6)),oe 8 (.call 99 [(.t 4),(.t 7)]),oq 3 (.mv (.t 8))]) (.seq (.ops [ oq 9 (.mv (.t 3)),oq 10 (.bin .neq (.t 9) (.v (.int .i64 0)))]) (.cond (.t 10) (.seq (.ops [ oq 11 (.mv (.t 3)),oq 2 (.mv (.t 11))]) .ret) .skip))) (.seq (.ops [ oq 12 (.mv (.t 0)),oq 13 (.nc (.t 12)),oq 14 (.fa 7 (.t 13)),oq 15 (.ld none (.t 14)),oq 16 (.bin .add (.t 15) (.v (.int .i64 1))),oq 17 (.nc (.t 12)),oq 18 (.fa 7 (.t 17)),oz (.store 1 (.t 18) (.t 16))]) (.seq (.ops [ oq 19 (.mv (.t 0)),oq 20 (.mv (.t 0)),oq 25 (.mv (.t 0)),oq 26 (.mv (.t 0)),oq 27 (.nc (.t 26)),oq 28 (.fa 2 (.t 27)),oq 29 (.ld none (.t 28)),oq 30 (.len (.t 29)),⟨some 21,none,.e (.call 100 [(.t 20)]),[⟨none,.ld none (.t 28),29⟩]⟩,oq 22 (.conv .u32 (.t 21)),⟨some 23,none,.e (.call 147 [(.t 22)]),[⟨none,.ld none (.t 28),29⟩]⟩,oq 24 (.bin .add (.v (.str [84,65,66,85,76,65,82,49])) (.t 23)),oe 31 (.call 148 [(.t 25),(.t 30)]),oq 32 (.bin .add (.t 24) (.t 31)),oe 33 (.call 101 [(.t 19),(.v (.int .i64 0)),(.t 32)])]) (.seq (.ops [ oq 2 (.mv (.v (.int .i64 0)))]) .ret))))
@[go_sem] def c97_15_wp:=wp_of c97_15.eq_1
def c97:AFn:=⟨34,[.t 2],c97_15⟩
theorem c97_ok:compF Tryz.prog Tryz.f97=some c97:=by kernel_rfl
theorem a97 {args:List AV} {σ:ASt} {R:AV->ASt->Prop} (hl:args.length<=34) (h:c97_15.wp Tryz.prog (RetQ [.t 2] R) (init args) σ):ACalls Tryz.prog 97 args σ R:=aFq Tryz.func97 c97_ok hl h
/-! 148: (*tabular/disk.Disk).next -/
def c148_9:ACode := .seq (.ops [ oq 4 (.mv (.v (.str [])))]) (.seq (.seq (.ops [ oq 5 (.mv (.t 1)),oq 6 (.bin .eql (.t 5) (.v (.int .i64 0)))]) (.cond (.t 6) (.seq (.ops [ oe 7 (.call 147 [(.v (.int .u32 4294967295))]),oq 4 (.mv (.t 7))]) .ret) .skip)) (.seq (.ops [ oq 8 (.mv (.t 0)),oq 9 (.nc (.t 8)),oq 10 (.fa 2 (.t 9)),oq 11 (.ld none (.t 10)),oq 12 (.mv (.t 1)),oq 13 (.bin .sub (.t 12) (.v (.int .i64 1))),oq 14 (.ia 1 (.t 11) (.t 13)),oq 15 (.ld none (.t 14)),oq 16 (.conv .u32 (.t 15)),oe 17 (.call 147 [(.t 16)]),oq 4 (.mv (.t 17))]) .ret))
@[go_sem] def c148_9_wp:=wp_of c148_9.eq_1
def c148:AFn:=⟨18,[.t 4],c148_9⟩
theorem c148_ok:compF Tryz.prog Tryz.f148=some c148:=by kernel_rfl
theorem a148 {args:List AV} {σ:ASt} {R:AV->ASt->Prop} (hl:args.length<=18) (h:c148_9.wp Tryz.prog (RetQ [.t 4] R) (init args) σ):ACalls Tryz.prog 148 args σ R:=aFq Tryz.func148 c148_ok hl h
end Go.A
namespace Go.A
open Go.Proofs
def nxfP (D:Dsk) (i:Nat):Nat:=if i=0 then 4294967295 else D.free.getD (i-1) 0
def headP (D:Dsk):List UInt8 := [84,65,66,85,76,65,82,49]++le32 D.isF.length++le32 (nxfP D D.free.length)
theorem headP_len (D:Dsk):(headP D).length=16:=rfl
section
variable {σ0 σ:ASt} {d B cB F I cI:Nat} {D:Dsk} {rB rI:List AV} {fv:AV}
theorem DM.next_lt (ho:D.ok) (i:Nat):nxfP D i<4294967296:=by
 unfold nxfP
 split
 ·decide
 ·rw [List.getD_eq_getElem?_getD]
  cases hx:D.free[i-1]? with
  | none=>exact (by decide:0<4294967296)
  | some p=>
    have h1:=ho.free p (List.mem_of_getElem? hx)
    have h2:=ho.most
    show p<4294967296
    omega
theorem dknext_ok (h:DM σ0 d D σ B cB rB fv F I cI rI) (ho:D.ok) {i:Nat} (hi:i<=D.free.length):ACalls Tryz.prog 148 [.ptr d 0,.int .i64 i] σ fun v σ'=>v = .str (le32 (nxfP D i))/\σ'=σ:=by
 have hd:=h.hd
 have hlt:=DM.next_lt ho i
 unfold Dsk.cs at hd
 by_cases g:i=0
 ·subst g
  have hw:=dkword_ok (v:=4294967295) (by decide)
  have e:nxfP D 0=4294967295:=rfl
  rw [e]
  refine a148 (by simp) ?_
  simp (disch:=first|assumption|omega) only [go_sem]
  refine hw.use ?_
  simp (disch:=first|assumption|omega) only [go_sem]
  exact retC_by (.refl _) (.refl _) ⟨rfl,rfl⟩
 ·rcases h.hF with ⟨h1,_,_⟩|⟨cF,rF,h1,h2,h3,h4,h5,h6,h7,h8⟩
  ·rw [h1] at hi
   exact absurd (Nat.le_zero.1 hi) g
  ·rw [h1] at hd
   have hx : D.free[i - 1]? = some (D.free[i - 1]'(by omega)) := List.getElem?_eq_getElem (by omega)
   have hn : nxfP D i = D.free[i - 1]'(by omega) := by
    unfold nxfP
    rw [if_neg g,List.getD_eq_getElem?_getD,hx]
    rfl
   have hw:=dkword_ok hlt
   rw [hn] at hw hlt ⊢
   have hm : (freeV D.free ++ rF)[i - 1]? = some (.int .i64 ((D.free[i - 1]'(by omega) : Nat) : Int)) := by
    unfold freeV
    rw [List.getElem?_append_left (by rw [List.length_map];omega),List.getElem?_map,hx]
    rfl
   generalize D.free[i - 1]'(by omega) = p at *
   have g':¬ (i:Int)=0:=by omega
   have hi2:(i:Int)<=60000:=by have:=ho.few;have:=ho.most;omega
   have e1:((i:Int)-1).toNat=i-1:=by omega
   have e2:(i:Int)-1<(D.free.length:Int):=by omega
   have e3:0<=(i:Int)-1:=by omega
   refine a148 (by simp) ?_
   simp (disch:=first|assumption|omega) only [go_sem,hd,g',e1,h2,hm,Nat.zero_add]
   refine hw.use ?_
   simp (disch:=first|assumption|omega) only [go_sem]
   exact retC_by (.refl _) (.refl _) ⟨rfl,rfl⟩
def flushP (D:Dsk):Dsk×Int:=
 if (failD D.wl).2≠0 then ({ D with wl:=(failD D.wl).1 },(failD D.wl).2)
 else ({ D with wl:=(failD D.wl).1,pt:=D.pt+1,b:=layP D.b 0 (headP D) },0)
theorem failD_rng {D:Dsk} (ho:D.ok) : -1<=(failD D.wl).1/\(failD D.wl).1<=1000000000:=by
 have:=ho.wl
 unfold failD
 split
 ·exact ⟨by decide,by decide⟩
 ·split<;>dsimp only<;>omega
theorem dkflush_ok (hT:CkT σ) (h:DM σ0 d D σ B cB rB fv F I cI rI) (ho:D.ok) (hpt:D.pt<1000000000) :
  ACalls Tryz.prog 97 [.ptr d 0] σ fun v σ'=>v = .int .i64 (flushP D).2/\∃ rB',DM σ0 d (flushP D).1 σ' B cB rB' fv F I cI rI:=by
 have hf:=dkfailW_ok h ho
 have hwr:=failD_rng ho
 have h1:=h.cells (D' := { D with wl:=(failD D.wl).1 }) rfl rfl rfl
 have ho1:({ D with wl:=(failD D.wl).1 }:Dsk).ok:=⟨ho.len,ho.one,ho.most,ho.free,ho.few,ho.rl,hwr,ho.rd,ho.pt⟩
 have hdn:3≠d:=by
  rintro he
  have:=h.hd
  unfold CkT at hT
  rw [<-he,hT] at this
  cases this
 have hC1:∀ (τ:ASt) r,CkT τ->CkT (τ.set d r):=fun τ r hτ=>by unfold CkT at *;rw [ASt.set_ne hdn];exact hτ
 obtain ⟨q,hq⟩:∃ q,flushP D=q:=⟨_,rfl⟩
 rw [hq]
 unfold flushP at hq
 have hd1:=h1.hd
 unfold Dsk.cs at hd1 hf
 by_cases g:(failD D.wl).2=0
 ·rw [if_neg (by simp [g])] at hq
  subst hq
  rw [g] at hf
  have hpt0:=ho.pt
  have h2:=h1.cells (D' := { D with wl:=(failD D.wl).1,pt:=D.pt+1 }) rfl rfl rfl
  rw [ASt.set_set] at h2
  have ho2:({ D with wl:=(failD D.wl).1,pt:=D.pt+1 }:Dsk).ok:=⟨ho.len,ho.one,ho.most,ho.free,ho.few,ho.rl,hwr,ho.rd,by dsimp only;omega⟩
  have hd2:=h2.hd
  have hCk:=hC1 σ (some (.obj (({ D with wl:=(failD D.wl).1,pt:=D.pt+1 }:Dsk).cs B cB fv I cI))) hT
  have hcnt:=dkcount_ok h2 ho2
  have hnx:=dknext_ok h2 ho2 (i:=D.free.length) (Nat.le_refl _)
  have hwo:=dkword_ok (v:=D.isF.length) (by have:=ho.most;omega)
  have hhl:(headP D).length<=504:=by rw [headP_len];decide
  have hlay:=dklay_ok hCk h2 ho2 (p:=0) ho.one hhl
  have hl:=layP_len (b:=D.b) (p:=0) hhl (by have:=ho.len;have:=ho.one;omega)
  have h3:=h2.lay (b':=layP D.b 0 (headP D)) hl
  have hb1:binS .add [84,65,66,85,76,65,82,49] (le32 D.isF.length)=some (.str (84::65::66::85::76::65::82::49::le32 D.isF.length)):=binS_add (by simp only [List.length_cons,List.length_nil,le32_len];decide)
  have hb2:binS .add (84::65::66::85::76::65::82::49::le32 D.isF.length) (le32 (nxfP D D.free.length))=some (.str (headP D)):=binS_add (by simp only [List.length_cons,le32_len];decide)
  have hnn:nxfP ({ D with wl:=(failD D.wl).1,pt:=D.pt+1 }:Dsk) D.free.length=nxfP D D.free.length:=rfl
  rw [hnn] at hnx
  have hnl:(D.isF.length:Int)<=60000:=by have:=ho.most;omega
  unfold Dsk.cs at hd2 hcnt hnx hlay h3
  dsimp only at hd2 hcnt hnx hlay h3 hd1 hf
  generalize layP D.b 0 (headP D)=b' at *
  generalize headP D=hh at *
  generalize le32 (nxfP D D.free.length)=nn at *
  generalize le32 D.isF.length=ww at *
  have hF:=h.hF
  clear h1 h2 ho1 ho2 hl hC1
  rcases hF with ⟨x1,x2,_⟩|⟨cF,rF,x2,_⟩
  ·have x0:(0:Int)=(D.free.length:Int):=by rw [x1];rfl
   rw [<-x0] at hnx
   subst x2
   refine a97 (by simp) ?_
   simp (disch:=first|assumption|omega) only [go_sem]
   refine hf.mono ?_
   rintro v σ' ⟨rfl,rfl⟩
   simp (disch:=first|assumption|omega) only [go_sem,ASt.set_set]
   refine hcnt.mono ?_
   rintro v σ' ⟨rfl,rfl⟩
   simp (disch:=first|assumption|omega) only [go_sem]
   refine hwo.use ?_
   simp (disch:=first|assumption|omega) only [go_sem,hb1]
   refine hnx.mono ?_
   rintro v σ' ⟨rfl,rfl⟩
   simp (disch:=first|assumption|omega) only [go_sem,hb2]
   refine hlay.mono ?_
   rintro v σ' ⟨rfl,rfl⟩
   simp (disch:=first|assumption|omega) only [go_sem]
   exact retC_by (.refl _) (.refl _) ⟨rfl,_,h3⟩
  ·subst x2
   refine a97 (by simp) ?_
   simp (disch:=first|assumption|omega) only [go_sem]
   refine hf.mono ?_
   rintro v σ' ⟨rfl,rfl⟩
   simp (disch:=first|assumption|omega) only [go_sem,ASt.set_set]
   refine hcnt.mono ?_
   rintro v σ' ⟨rfl,rfl⟩
   simp (disch:=first|assumption|omega) only [go_sem]
   refine hwo.use ?_
   simp (disch:=first|assumption|omega) only [go_sem,hb1]
   refine hnx.mono ?_
   rintro v σ' ⟨rfl,rfl⟩
   simp (disch:=first|assumption|omega) only [go_sem,hb2]
   refine hlay.mono ?_
   rintro v σ' ⟨rfl,rfl⟩
   simp (disch:=first|assumption|omega) only [go_sem]
   exact retC_by (.refl _) (.refl _) ⟨rfl,_,h3⟩
 ·rw [if_pos g] at hq
  subst hq
  refine a97 (by simp) ?_
  simp (disch:=first|assumption|omega) only [go_sem]
  refine hf.mono ?_
  rintro v σ' ⟨rfl,rfl⟩
  simp (disch:=first|assumption|omega) only [go_sem,g]
  exact retC_by (.refl _) (.refl _) ⟨rfl,_,h1⟩
end
end Go.A
namespace Go.A
open Go.Proofs
/-! 58: tabular/disk.New -/
def c58_11:ACode := .seq (.ops [ oq 2 (.mv (.v .nilp))]) (.seq (.ops [ oq 4 (.mv (.t 0)),oq 5 (.mnx true (.t 4) (.v (.int .i64 2))),oq 6 (.mnx false (.t 5) (.v (.int .i64 60000))),oq 7 (.build [(.sl .full []),(.int .i64 0),(.sl .full []),(.sl .full []),(.int .i64 0),(.int .i64 0),(.int .i64 0),(.int .i64 0)] [(1,1,(.t 6)),(4,1,(.v (.int .i64 (-1)))),(5,1,(.v (.int .i64 (-1))))]),oe 8 (.box (.t 7)),oq 3 (.mv (.t 8))]) (.seq (.ops [ oq 9 (.mv (.t 3)),oe 10 (.mks 5 1 (.int .u8 0) (.v (.int .i64 512)) (.v (.int .i64 512))),oq 11 (.nc (.t 9)),oq 12 (.fa 0 (.t 11)),oz (.store 1 (.t 12) (.t 10))]) (.seq (.ops [ oq 13 (.mv (.t 3)),oe 14 (.mks 4 1 (.bool false) (.v (.int .i64 1)) (.v (.int .i64 1))),oq 15 (.nc (.t 13)),oq 16 (.fa 3 (.t 15)),oz (.store 1 (.t 16) (.t 14))]) (.seq (.ops [ oq 17 (.mv (.t 3)),oe 18 (.call 97 [(.t 17)])]) (.seq (.ops [ oq 19 (.mv (.t 3)),oq 2 (.mv (.t 19))]) .ret)))))
@[go_sem] def c58_11_wp:=wp_of c58_11.eq_1
def c58:AFn:=⟨20,[.t 2],c58_11⟩
theorem c58_ok:compF Tryz.prog Tryz.f58=some c58:=by kernel_rfl
theorem a58 {args:List AV} {σ:ASt} {R:AV->ASt->Prop} (hl:args.length<=20) (h:c58_11.wp Tryz.prog (RetQ [.t 2] R) (init args) σ):ACalls Tryz.prog 58 args σ R:=aFq Tryz.func58 c58_ok hl h
/-! 59: (*tabular/disk.Disk).Take -/
def c59_36:ACode := .seq (.seq (.ops [ oq 7 (.mv (.t 0)),oe 8 (.call 98 [(.t 7)]),oq 9 (.bin .eql (.t 8) (.v (.int .i64 0)))]) (.cond (.t 9) (.seq (.ops [ oq 2 (.mv (.v (.int .i64 0))),oq 3 (.mv (.v (.int .i64 6)))]) .ret) .skip)) (.seq (.seq (.ops [ oq 10 (.mv (.t 0)),oq 11 (.mv (.t 0)),oq 12 (.nc (.t 11)),oq 13 (.fa 5 (.t 12)),oe 14 (.call 99 [(.t 10),(.t 13)]),oq 4 (.mv (.t 14))]) (.seq (.ops [ oq 15 (.mv (.t 4)),oq 16 (.bin .neq (.t 15) (.v (.int .i64 0)))]) (.cond (.t 16) (.seq (.ops [ oq 17 (.mv (.t 4)),oq 2 (.mv (.v (.int .i64 0))),oq 3 (.mv (.t 17))]) .ret) .skip))) (.seq (.ops [ oq 18 (.mv (.t 0)),oq 19 (.nc (.t 18)),oq 20 (.fa 7 (.t 19)),oq 21 (.ld none (.t 20)),oq 22 (.bin .add (.t 21) (.v (.int .i64 1))),oq 23 (.nc (.t 18)),oq 24 (.fa 7 (.t 23)),oz (.store 1 (.t 24) (.t 22))]) (.seq (.ops [ oq 25 (.mv (.t 0)),oe 26 (.call 100 [(.t 25)]),oq 5 (.mv (.t 26))]) (.seq (.seq (.ops [ oq 27 (.mv (.t 0)),oq 28 (.nc (.t 27)),oq 29 (.fa 2 (.t 28)),oq 30 (.ld none (.t 29)),oq 31 (.len (.t 30)),oq 6 (.mv (.t 31))]) (.seq (.ops [ oq 32 (.mv (.t 6)),oq 33 (.bin .gtr (.t 32) (.v (.int .i64 0)))]) (.cond (.t 33) (.seq (.ops [ oq 34 (.mv (.t 0)),oq 35 (.nc (.t 34)),oq 36 (.fa 2 (.t 35)),oq 37 (.ld none (.t 36)),oq 38 (.mv (.t 6)),oq 39 (.bin .sub (.t 38) (.v (.int .i64 1))),oq 40 (.ia 1 (.t 37) (.t 39)),oq 41 (.ld none (.t 40)),oq 5 (.mv (.t 41))]) (.seq (.ops [ oq 42 (.mv (.t 0)),oq 43 (.mv (.t 0)),oq 44 (.nc (.t 43)),oq 45 (.fa 2 (.t 44)),oq 46 (.ld none (.t 45)),oq 47 (.mv (.t 6)),oq 48 (.bin .sub (.t 47) (.v (.int .i64 1))),oq 49 (.slto (false,1) (.t 46) (.t 48)),oq 50 (.nc (.t 42)),oq 51 (.fa 2 (.t 50)),oz (.store 1 (.t 51) (.t 49))]) (.ops [ oq 52 (.mv (.t 0)),oq 53 (.nc (.t 52)),oq 54 (.fa 3 (.t 53)),oq 55 (.ld none (.t 54)),oq 56 (.mv (.t 5)),oq 57 (.ia 1 (.t 55) (.t 56)),oz (.store 1 (.t 57) (.v (.bool false)))]))) (.seq (.ops [ oq 58 (.mv (.t 0)),oq 59 (.mv (.t 0)),oq 60 (.nc (.t 59)),oq 61 (.fa 0 (.t 60)),oq 62 (.ld none (.t 61)),oe 63 (.appm 1 1 [(.int .u8 0)] (.t 62) (.v (.int .i64 512))),oq 64 (.nc (.t 58)),oq 65 (.fa 0 (.t 64)),oz (.store 1 (.t 65) (.t 63))]) (.ops [ oq 66 (.mv (.t 0)),oq 67 (.mv (.t 0)),oq 68 (.nc (.t 67)),oq 69 (.fa 3 (.t 68)),oq 70 (.ld none (.t 69)),oq 71 (.bsl 1 [(.v (.bool false))]),oe 72 (.app 4 1 1 [(.bool false)] (.t 70) (.t 71)),oq 73 (.nc (.t 66)),oq 74 (.fa 3 (.t 73)),oz (.store 1 (.t 74) (.t 72))]))))) (.seq (.ops [ oq 75 (.mv (.t 0)),oq 76 (.mv (.t 5)),oe 77 (.call 101 [(.t 75),(.t 76),(.v (.str []))])]) (.seq (.ops [ oq 78 (.mv (.t 5)),oq 2 (.mv (.t 78)),oq 3 (.mv (.v (.int .i64 0)))]) .ret))))))
def c59_37:ACode := .seq (.ops [ oq 2 (.mv (.v (.int .i64 0))),oq 3 (.mv (.v (.int .i64 0)))]) c59_36
@[go_sem] def c59_36_wp:=wp_of c59_36.eq_1
@[go_sem] def c59_37_wp:=wp_of c59_37.eq_1
def c59:AFn:=⟨79,[.t 2,.t 3],c59_37⟩
theorem c59_ok:compF Tryz.prog Tryz.f59=some c59:=by kernel_rfl
theorem a59 {args:List AV} {σ:ASt} {R:AV->ASt->Prop} (hl:args.length<=79) (h:c59_37.wp Tryz.prog (RetQ [.t 2,.t 3] R) (init args) σ):ACalls Tryz.prog 59 args σ R:=aFq Tryz.func59 c59_ok hl h
end Go.A
namespace Go.A
open Go.Proofs
def rawP (m:Int):Dsk:=⟨List.replicate 512 0,m,[],[false], -1, -1,0,0⟩
def newP (m:Int):Dsk:=(flushP (rawP m)).1
theorem rawP_ok {m:Int} (h:2<=m/\m<=60000):(rawP m).ok where
 len:=by unfold rawP;rw [List.length_replicate];rfl
 one:=Nat.le_refl 1
 most:=⟨(by have:=h.1;show (1:Int)<=m;omega),h.2⟩
 free:=fun p hp=>by cases hp
 few:=Nat.zero_le _
 rl:=⟨(by decide:(-1:Int) ≤ -1),(by decide:(-1:Int)<=1000000000)⟩
 wl:=⟨(by decide:(-1:Int) ≤ -1),(by decide:(-1:Int)<=1000000000)⟩
 rd:=⟨(by decide:(0:Int)<=0),(by decide:(0:Int)<=1000000000)⟩
 pt:=⟨(by decide:(0:Int)<=0),(by decide:(0:Int)<=1000000000)⟩
theorem newP_eq (m:Int):newP m=⟨layP (List.replicate 512 0) 0 (headP (rawP m)),m,[],[false], -1, -1,0,1⟩:=rfl
theorem newP_ok {m:Int} (h:2<=m/\m<=60000):(newP m).ok:=by
 have ho:=rawP_ok h
 have hl:(layP (List.replicate 512 0) 0 (headP (rawP m))).length=512:=by
  rw [layP_len (by rw [headP_len];decide) (by rw [List.length_replicate];decide),List.length_replicate]
 rw [newP_eq]
 exact ⟨hl,ho.one,ho.most,ho.free,ho.few,ho.rl,ho.wl,ho.rd,⟨(by decide:(0:Int)<=1),(by decide:(1:Int)<=1000000000)⟩⟩
theorem zero_bytes (n:Nat):List.replicate n (AV.int .u8 0)=bytesAV (List.replicate n 0):=by
 unfold bytesAV
 rw [List.map_replicate]
 rfl
theorem dknew_full {σ:ASt} (hT:CkT σ) (pages:Int):ACalls Tryz.prog 58 [.int .i64 pages] σ fun v σ'=>∃ d B cB rB I cI rI,v = .ptr d 0/\DM σ d (newP (min (max pages 2) 60000)) σ' B cB rB (.sl .full []) d I cI rI:=by
 obtain ⟨m,hm⟩:∃ m,min (max pages 2) 60000=m:=⟨_,rfl⟩
 have hmr:2<=m/\m<=60000:=by omega
 have ho:=rawP_ok hmr
 rw [hm]
 refine a58 (by simp) ?_
 simp (disch:=first|assumption|omega) only [go_sem,hm]
 refine boxC_by rfl fun d hd=>?_
 have hT1:=fun r=>CkT.set (r:=r) hT hd
 simp (disch:=first|assumption|omega) only [go_sem]
 refine mks_own (by decide) (by decide) (by decide) (by decide) fun B hB=>?_
 have hT2:=fun r=>CkT.set (r:=r) (hT1 _) hB
 have e512:((512:Int)).toNat=512:=rfl
 rw [e512,zero_bytes]
 repeat (with_reducible replace hB:=set_none hB;obtain ⟨_,_,hB⟩:=hB)
 have hdB:d≠B:=by assumption
 simp (disch:=first|assumption|omega) only [go_sem]
 refine mks_own (by decide) (by decide) (by decide) (by decide) fun I hI=>?_
 have hI':=hI
 repeat (with_reducible replace hI:=set_none hI;obtain ⟨_,_,hI⟩:=hI)
 have hdI:d≠I:=by assumption
 have hBI:B≠I:=by assumption
 have hId:I≠d:=Ne.symm hdI
 have hBd:B≠d:=Ne.symm hdB
 have hIB:I≠B:=Ne.symm hBI
 have hσd:σ d=none:=by assumption
 have hσB:σ B=none:=by assumption
 have hσI:σ I=none:=by assumption
 have e1:((1:Int)).toNat=1:=rfl
 rw [e1]
 have hr1:List.replicate 1 (AV.bool false) = [AV.bool false]:=rfl
 rw [hr1]
 simp (disch:=first|assumption|omega) only [go_sem]
 obtain ⟨τ,hτ⟩:∃ τ,τ=(((((σ.set d (some (.obj [.sl .full [],.int .i64 m,.sl .full [],.sl .full [],.int .i64 (-1),.int .i64 (-1),.int .i64 0,.int .i64 0]))).set B (some (.obj (bytesAV (List.replicate 512 0))))).set d (some (.obj [.msl B 0 512 512,.int .i64 m,.sl .full [],.sl .full [],.int .i64 (-1),.int .i64 (-1),.int .i64 0,.int .i64 0]))).set I (some (.obj [.bool false]))).set d (some (.obj [.msl B 0 512 512,.int .i64 m,.sl .full [],.msl I 0 1 1,.int .i64 (-1),.int .i64 (-1),.int .i64 0,.int .i64 0]))):=⟨_,rfl⟩
 rw [<-hτ]
 have hDM:DM σ d (rawP m) τ B 512 [] (.sl .full []) d I 1 []:=by
  refine ⟨?_,?_,?_,?_,?_,.inl ⟨rfl,rfl,rfl⟩,hdB,hdI,hBI,hσd,hσB,hσI,?_⟩
  ·rw [hτ]
   unfold Dsk.cs rawP
   rw [List.length_replicate]
   exact ASt.set_same _ _ _
  ·rw [hτ,List.append_nil]
   simp (disch:=first|assumption|omega) only [go_sem]
   rfl
  ·rw [hτ]
   simp (disch:=first|assumption|omega) only [go_sem]
   rfl
  ·unfold rawP;rw [List.length_replicate];exact ⟨Nat.le_refl _,rfl⟩
  ·exact ⟨Nat.le_refl _,rfl⟩
  ·intro x h1 h2 h3 h4
   left
   rw [hτ,ASt.set_ne h1,ASt.set_ne h3,ASt.set_ne h1,ASt.set_ne h2,ASt.set_ne h1]
 have hTτ:CkT τ:=by
  unfold CkT
  exact hDM.at hT
 have hfl:=dkflush_ok hTτ hDM ho (by decide:(0:Int)<1000000000)
 refine hfl.mono ?_
 rintro v σ' ⟨rfl,rB',h2⟩
 simp (disch:=first|assumption|omega) only [go_sem]
 exact retC_by (.refl _) (.refl _) ⟨d,B,512,rB',I,1,[],rfl,h2⟩
theorem dknew_ok {σ:ASt} (hT:CkT σ) (pages:Int):ACalls Tryz.prog 58 [.int .i64 pages] σ fun v σ'=>∃ d,v = .ptr d 0/\DiskAt σ d (newP (min (max pages 2) 60000)) σ':=
 (dknew_full hT pages).mono fun v σ' ⟨d,B,cB,rB,I,cI,rI,hv,h⟩=>⟨d,hv,B,cB,rB,_,_,I,cI,rI,h⟩
section
variable {σ0 σ:ASt} {d B cB F I cI:Nat} {D:Dsk} {rB rI:List AV} {fv:AV}
theorem DM.low (h:DM σ0 d D σ B cB rB fv F I cI rI) {x:Nat} (hx:σ x=none):x≠d/\x≠B/\x≠I/\x≠F/\σ0 x=none:=by
 have h1:x≠d:=by rintro rfl;rw [h.hd] at hx;cases hx
 have h2:x≠B:=by rintro rfl;rw [h.hB] at hx;cases hx
 have h3:x≠I:=by rintro rfl;rw [h.hI] at hx;cases hx
 have h4:x≠F:=by
  rcases h.hF with ⟨_,_,rfl⟩|⟨cF,rF,_,hm,_⟩
  ·exact h1
  ·rintro rfl;rw [hm] at hx;cases hx
 refine ⟨h1,h2,h3,h4,?_⟩
 rcases h.out x h1 h2 h3 h4 with h5|h5
 ·rw [h5,hx]
 ·exact h5
theorem DM.growB (h:DM σ0 d D σ B cB rB fv F I cI rI) (hlen:D.b.length<=40000000) {K:AV->ASt->Prop}
  (hK:∀ B' cB' rB' τ,τ d=some (.obj (D.cs B cB fv I cI))->DM σ0 d { D with b:=D.b++List.replicate 512 0 } (τ.set d (some (.obj (({ D with b:=D.b++List.replicate 512 0 }:Dsk).cs B' cB' fv I cI)))) B' cB' rB' fv F I cI rI->K (.msl B' 0 (D.b.length+512) cB') τ) :
  appmC 1 1 [.int .u8 0] (.msl B 0 D.b.length cB) (.int .i64 512) σ K:=by
 have hB:=h.hB
 obtain ⟨hc1,hc2⟩:=h.cB
 have hz:(List.replicate 512 [AV.int .u8 0]).flatten=bytesAV (List.replicate 512 0):=by rw [List.flatten_replicate_singleton];exact zero_bytes 512
 have hzl:(bytesAV (List.replicate 512 0)).length=512:=by rw [kbytes_len,List.length_replicate]
 have hml:(bytesAV D.b++rB).length=cB:=by rw [List.length_append,kbytes_len];omega
 have hnl:(D.b++List.replicate 512 0).length=D.b.length+512:=by rw [List.length_append,List.length_replicate]
 have hF:=h.hF
 refine appmC_by (m:=512) hB rfl (by omega) (by omega) (by omega) (fun hroom=>⟨by omega,?_⟩) (fun hgrow b' c' hb' hc'=>?_)
 ·have e:splice (bytesAV D.b++rB) (0+D.b.length*1) (512*1) (List.replicate 512 [AV.int .u8 0]).flatten=bytesAV (D.b++List.replicate 512 0)++rB.drop 512:=by
   rw [hz,Nat.zero_add,Nat.mul_one,Nat.mul_one]
   unfold splice
   rw [kbytes_app]
   have a1:(bytesAV D.b++rB).take D.b.length=bytesAV D.b:=by rw [<-kbytes_len D.b,List.take_left]
   have a2:(bytesAV D.b++rB).drop (D.b.length+512)=rB.drop 512:=by rw [<-List.drop_drop,← kbytes_len D.b,List.drop_left]
   rw [a1,a2]
  rw [e]
  refine hK B cB (rB.drop 512) _ (by rw [ASt.set_ne h.n1];exact h.hd) ?_
  refine ⟨ASt.set_same _ _ _,?_,?_,?_,h.cI,?_,h.n1,h.n2,h.n3,h.z1,h.z2,h.z3,?_⟩
  ·rw [ASt.set_ne (Ne.symm h.n1),ASt.set_same]
  ·rw [ASt.set_ne (Ne.symm h.n2),ASt.set_ne (Ne.symm h.n3)];exact h.hI
  ·dsimp only
   rw [hnl,List.length_drop]
   clear hF
   omega
  ·rcases hF with ⟨x1,x2,x3⟩|⟨cF,rF,x1,x2,x3,x4,x5,x6,x7,x8⟩
   ·exact .inl ⟨x1,x2,x3⟩
   ·exact .inr ⟨cF,rF,x1,by rw [ASt.set_ne x5,ASt.set_ne x6];exact x2,x3,x4,x5,x6,x7,x8⟩
  ·intro x h1 h2 h3 h4
   rw [ASt.set_ne h1,ASt.set_ne h2]
   exact h.out x h1 h2 h3 h4
 ·obtain ⟨f1,f2,f3,f4,f5⟩:=h.low hb'
  have e:ownRow 1 [AV.int .u8 0] (((bytesAV D.b++rB).drop 0).take (D.b.length*1)++(List.replicate 512 [AV.int .u8 0]).flatten) (D.b.length+512) c'=bytesAV (D.b++List.replicate 512 0)++ownRow 1 [AV.int .u8 0] [] (D.b.length+512) c':=by
   unfold ownRow
   rw [hz,List.drop_zero,Nat.mul_one,kbytes_app,← kbytes_len D.b,List.take_left,List.nil_append]
  have hol:(ownRow 1 [AV.int .u8 0] [] (D.b.length+512) c').length=c'-(D.b.length+512):=by
   unfold ownRow
   simp
  rw [e]
  refine hK b' c' (ownRow 1 [AV.int .u8 0] [] (D.b.length+512) c') _ (by rw [ASt.set_ne (Ne.symm f1)];exact h.hd) ?_
  refine ⟨ASt.set_same _ _ _,?_,?_,?_,h.cI,?_,Ne.symm f1,h.n2,f3,h.z1,f5,h.z3,?_⟩
  ·rw [ASt.set_ne f1,ASt.set_same]
  ·rw [ASt.set_ne (Ne.symm h.n2),ASt.set_ne (Ne.symm f3)];exact h.hI
  ·dsimp only
   rw [hnl,hol]
   clear hF
   omega
  ·rcases hF with ⟨x1,x2,x3⟩|⟨cF,rF,x1,x2,x3,x4,x5,x6,x7,x8⟩
   ·exact .inl ⟨x1,x2,x3⟩
   ·exact .inr ⟨cF,rF,x1,by rw [ASt.set_ne x5,ASt.set_ne (Ne.symm f4)];exact x2,x3,x4,x5,Ne.symm f4,x7,x8⟩
  ·intro x h1 h2 h3 h4
   rw [ASt.set_ne h1,ASt.set_ne h2]
   by_cases hxB:x=B
   ·rw [hxB];exact .inr h.z2
   ·exact h.out x h1 hxB h3 h4
theorem DM.growI (h:DM σ0 d D σ B cB rB fv F I cI rI) (hlen:D.isF.length<=100000) {K:AV->ASt->Prop} {e:TypeId}
  (hK:∀ I' cI' rI' τ,τ d=some (.obj (D.cs B cB fv I cI))->DM σ0 d { D with isF:=D.isF ++ [false] } (τ.set d (some (.obj (({ D with isF:=D.isF ++ [false] }:Dsk).cs B cB fv I' cI')))) B cB rB fv F I' cI' rI'->K (.msl I' 0 (D.isF.length+1) cI') τ) :
  appC e 1 1 [.bool false] (.msl I 0 D.isF.length cI) (.sl .full [.bool false]) σ K:=by
 have hI:=h.hI
 obtain ⟨hc1,hc2⟩:=h.cI
 have hml:(D.isF.map AV.bool++rI).length=cI:=by rw [List.length_append,List.length_map];omega
 have hnl:(D.isF ++ [false]).length=D.isF.length+1:=by rw [List.length_append];rfl
 have hF:=h.hF
 have hfl : [AV.bool false].flatMap AV.cells = [AV.bool false]:=rfl
 have h1l : [AV.bool false].length=1:=rfl
 rw [appC_msl,hI]
 refine appM_by rfl rfl (by rw [h1l];omega) (by rw [h1l];omega) (by omega) (fun hroom=>⟨by rw [h1l] at hroom ⊢;omega,?_⟩) (fun hgrow b' c' hb' hc'=>?_)
 ·rw [h1l] at hroom
  have e:splice (D.isF.map AV.bool++rI) (0+D.isF.length*1) ([AV.bool false].length*1) ([AV.bool false].flatMap AV.cells)=(D.isF ++ [false]).map AV.bool++rI.drop 1:=by
   rw [hfl,h1l,Nat.zero_add,Nat.mul_one,Nat.mul_one]
   unfold splice
   have hll:(D.isF.map AV.bool).length=D.isF.length:=List.length_map _
   have a1:(D.isF.map AV.bool++rI).take D.isF.length=D.isF.map AV.bool:=by rw [<-hll,List.take_left]
   have a2:(D.isF.map AV.bool++rI).drop (D.isF.length+1)=rI.drop 1:=by rw [<-List.drop_drop,← hll,List.drop_left]
   rw [a1,a2,List.map_append]
   rfl
  rw [e]
  refine hK I cI (rI.drop 1) _ (by rw [ASt.set_ne h.n2];exact h.hd) ?_
  refine ⟨ASt.set_same _ _ _,?_,?_,h.cB,?_,?_,h.n1,h.n2,h.n3,h.z1,h.z2,h.z3,?_⟩
  ·rw [ASt.set_ne (Ne.symm h.n1),ASt.set_ne h.n3];exact h.hB
  ·rw [ASt.set_ne (Ne.symm h.n2),ASt.set_same]
  ·dsimp only
   rw [hnl,List.length_drop]
   clear hF
   omega
  ·rcases hF with ⟨x1,x2,x3⟩|⟨cF,rF,x1,x2,x3,x4,x5,x6,x7,x8⟩
   ·exact .inl ⟨x1,x2,x3⟩
   ·exact .inr ⟨cF,rF,x1,by rw [ASt.set_ne x5,ASt.set_ne x7];exact x2,x3,x4,x5,x6,x7,x8⟩
  ·intro x h1 h2 h3 h4
   rw [ASt.set_ne h1,ASt.set_ne h3]
   exact h.out x h1 h2 h3 h4
 ·rw [h1l] at hgrow hc'
  obtain ⟨f1,f2,f3,f4,f5⟩:=h.low hb'
  have e:ownRow 1 [AV.bool false] (((D.isF.map AV.bool++rI).drop 0).take (D.isF.length*1) ++ [AV.bool false].flatMap AV.cells) (D.isF.length + [AV.bool false].length) c'=(D.isF ++ [false]).map AV.bool++ownRow 1 [AV.bool false] [] (D.isF.length+1) c':=by
   unfold ownRow
   have hll:(D.isF.map AV.bool).length=D.isF.length:=List.length_map _
   rw [hfl,h1l,List.drop_zero,Nat.mul_one,List.map_append,← hll,List.take_left,List.nil_append]
   rfl
  have hol:(ownRow 1 [AV.bool false] [] (D.isF.length+1) c').length=c'-(D.isF.length+1):=by
   unfold ownRow
   simp
  rw [e]
  refine hK b' c' (ownRow 1 [AV.bool false] [] (D.isF.length+1) c') _ (by rw [ASt.set_ne (Ne.symm f1)];exact h.hd) ?_
  refine ⟨ASt.set_same _ _ _,?_,?_,h.cB,?_,?_,h.n1,Ne.symm f1,Ne.symm f2,h.z1,h.z2,f5,?_⟩
  ·rw [ASt.set_ne (Ne.symm h.n1),ASt.set_ne (Ne.symm f2)];exact h.hB
  ·rw [ASt.set_ne f1,ASt.set_same]
  ·dsimp only
   rw [hnl,hol]
   clear hF
   omega
  ·rcases hF with ⟨x1,x2,x3⟩|⟨cF,rF,x1,x2,x3,x4,x5,x6,x7,x8⟩
   ·exact .inl ⟨x1,x2,x3⟩
   ·exact .inr ⟨cF,rF,x1,by rw [ASt.set_ne x5,ASt.set_ne (Ne.symm f4)];exact x2,x3,x4,x5,x6,Ne.symm f4,x8⟩
  ·intro x h1 h2 h3 h4
   rw [ASt.set_ne h1,ASt.set_ne h3]
   by_cases hxI:x=I
   ·rw [hxI];exact .inr h.z3
   ·exact h.out x h1 h2 hxI h4
def tookP (D:Dsk):Dsk := { D with b:=layP (D.b++List.replicate 512 0) D.isF.length [],isF:=D.isF ++ [false],pt:=D.pt+1 }
set_option maxHeartbeats 1000000 in
theorem dktake_new (hT:CkT σ) (h:DM σ0 d D σ B cB rB fv F I cI rI) (hck:CkT σ0) (ho:D.ok) (hfree:D.free = []) (hroom:(D.isF.length:Int)<D.most) (hwl:D.wl = -1) (hpt:D.pt<1000000000) :
  ACalls Tryz.prog 59 [.ptr d 0] σ fun v σ'=>v = .tuple [.int .i64 D.isF.length,.int .i64 0]/\DiskAt σ0 d (tookP D) σ':=by
 have hm:=ho.most
 have hbl:=ho.len
 have hpt0:=ho.pt
 have hro:=dkroom_ok h ho
 have hf:=dkfailW_ok h ho
 have hfd:failD D.wl=(-1,0):=by rw [hwl];rfl
 have hDw:({ D with wl := -1 }:Dsk)=D:=by rw [<-hwl]
 rw [hfd] at hf
 dsimp only at hf
 rw [hDw] at hf
 have hset:σ.set d (some (.obj (D.cs B cB fv I cI)))=σ:=by
  funext x
  by_cases hx:x=d
  ·rw [hx,ASt.set_same,h.hd]
  ·rw [ASt.set_ne hx]
 rw [hset] at hf
 obtain ⟨D1,hD1⟩:∃ D1:Dsk,D1 = { D with pt:=D.pt+1 }:=⟨_,rfl⟩
 have h1:=h.cells (D':=D1) (by rw [hD1]) (by rw [hD1]) (by rw [hD1])
 have ho1:D1.ok:=by
  rw [hD1]
  exact ⟨ho.len,ho.one,ho.most,ho.free,ho.few,ho.rl,ho.wl,ho.rd,⟨by show 0<=D.pt+1;omega,by show D.pt+1<=1000000000;omega⟩⟩
 have hcnt:=dkcount_ok h1 ho1
 have hd:=h.hd
 have hd1:=h1.hd
 have hDc:D1.cs B cB fv I cI = [.msl B 0 D.b.length cB,.int .i64 D.most,fv,.msl I 0 D.isF.length cI,.int .i64 D.rl,.int .i64 D.wl,.int .i64 D.rd,.int .i64 (D.pt+1)]:=by rw [hD1];rfl
 rw [hfree,List.length_nil] at hro
 have e0:¬ (D.most-(D.isF.length:Int)+((0:Nat):Int))=0:=by omega
 have hi1:D1.isF=D.isF:=by rw [hD1]
 have hb1:D1.b=D.b:=by rw [hD1]
 have hfl:lenC fv=some (.int .i64 0):=by
  rcases h.hF with ⟨_,x,_⟩|⟨cF,rF,x1,_⟩
  ·rw [x];rfl
  ·rw [x1,hfree];rfl
 obtain ⟨τ1,hτ1⟩:∃ τ,τ=σ.set d (some (.obj (D1.cs B cB fv I cI))):=⟨_,rfl⟩
 rw [<-hτ1] at h1 hcnt hd1
 have hds:σ.set d (some (.obj [.msl B 0 D.b.length cB,.int .i64 D.most,fv,.msl I 0 D.isF.length cI,.int .i64 D.rl,.int .i64 D.wl,.int .i64 D.rd,.int .i64 (D.pt+1)]))=τ1:=by rw [hτ1,hDc]
 rw [hDc] at hd1
 rw [hi1] at hcnt
 unfold Dsk.cs at hd
 refine a59 (by simp) ?_
 simp (disch:=first|assumption|omega) only [go_sem]
 refine hro.mono ?_
 rintro v σ' ⟨rfl,rfl⟩
 simp (disch:=first|assumption|omega) only [go_sem]
 refine hf.mono ?_
 rintro v σ'' ⟨rfl,rfl⟩
 simp (disch:=first|assumption|omega) only [go_sem,hd,hds]
 refine hcnt.mono ?_
 rintro v σ'' ⟨rfl,rfl⟩
 simp (disch:=first|assumption|omega) only [go_sem,hd1,hfl]
 have hlb:D.b.length=D1.b.length:=by rw [hb1]
 rw [hlb]
 refine h1.growB (by rw [hb1];omega) fun B' cB' rB' τ2 hτd h2=>?_
 rw [hDc,hlb] at hτd
 obtain ⟨D2,hD2⟩:∃ D2:Dsk,D2 = { D1 with b:=D1.b++List.replicate 512 0 }:=⟨_,rfl⟩
 rw [<-hD2] at h2
 have hDc2:D2.cs B' cB' fv I cI = [.msl B' 0 (D1.b.length+512) cB',.int .i64 D.most,fv,.msl I 0 D.isF.length cI,.int .i64 D.rl,.int .i64 D.wl,.int .i64 D.rd,.int .i64 (D.pt+1)]:=by
  have e:(D1.b++List.replicate 512 0).length=D1.b.length+512:=by rw [List.length_append,List.length_replicate]
  rw [hD2]
  unfold Dsk.cs
  dsimp only
  rw [e,hD1]
 obtain ⟨τ3,hτ3⟩:∃ τ,τ=τ2.set d (some (.obj (D2.cs B' cB' fv I cI))):=⟨_,rfl⟩
 rw [<-hτ3] at h2
 rw [hDc2] at hτ3
 have hd3:=h2.hd
 rw [hDc2] at hd3
 have hi2:D2.isF=D.isF:=by rw [hD2,hD1]
 simp (disch:=first|assumption|omega) only [go_sem,hτd]
 rw [<-hτ3]
 have hg2:=fun (K:AV->ASt->Prop) (e:TypeId)=>h2.growI (K:=K) (e:=e) (by rw [hi2];omega)
 rw [hi2] at hg2
 refine hg2 _ (0:TypeId) fun I' cI' rI' τ4 hτd4 h4=>?_
 rw [hDc2] at hτd4
 obtain ⟨D3,hD3⟩:∃ D3:Dsk,D3 = { D2 with isF:=D.isF ++ [false] }:=⟨_,rfl⟩
 rw [<-hD3] at h4
 have hDc3:D3.cs B' cB' fv I' cI' = [.msl B' 0 (D1.b.length+512) cB',.int .i64 D.most,fv,.msl I' 0 (D.isF.length+1) cI',.int .i64 D.rl,.int .i64 D.wl,.int .i64 D.rd,.int .i64 (D.pt+1)]:=by
  have e:(D1.b++List.replicate 512 0).length=D1.b.length+512:=by rw [List.length_append,List.length_replicate]
  have e2:(D.isF ++ [false]).length=D.isF.length+1:=by rw [List.length_append];rfl
  rw [hD3]
  unfold Dsk.cs
  dsimp only
  rw [e2,hD2]
  dsimp only
  rw [e,hD1]
 obtain ⟨τ5,hτ5⟩:∃ τ,τ=τ4.set d (some (.obj (D3.cs B' cB' fv I' cI'))):=⟨_,rfl⟩
 rw [<-hτ5] at h4
 rw [hDc3] at hτ5
 have hck5:CkT τ5:=h4.at hck
 have e2:(D.isF ++ [false]).length=D.isF.length+1:=by rw [List.length_append];rfl
 have hi3:D3.isF=D.isF ++ [false]:=by rw [hD3]
 have hb3:D3.b=D.b++List.replicate 512 0:=by rw [hD3,hD2,hD1]
 have ho3:D3.ok:=by
  refine ⟨?_,?_,?_,?_,?_,?_,?_,?_,?_⟩
  ·rw [hb3,hi3,e2,List.length_append,List.length_replicate];omega
  ·rw [hi3,e2];omega
  ·rw [hi3,e2,hD3,hD2,hD1];show ((D.isF.length+1:Nat):Int)<=D.most/\D.most<=60000;omega
  ·rw [hD3,hD2,hD1]
   intro p hp
   have hp:p∈D.free:=hp
   rw [hfree] at hp
   cases hp
  ·rw [hi3,e2,hD3,hD2,hD1];show D.free.length<=_;rw [hfree];exact Nat.zero_le _
  ·rw [hD3,hD2,hD1];exact ho.rl
  ·rw [hD3,hD2,hD1];exact ho.wl
  ·rw [hD3,hD2,hD1];exact ho.rd
  ·rw [hD3,hD2,hD1];exact ⟨by show 0<=D.pt+1;omega,by show D.pt+1<=1000000000;omega⟩
 have hlay:=dklay_ok hck5 h4 ho3 (p:=D.isF.length) (by rw [hi3,e2];omega) (s := []) (by decide)
 have h6:=h4.lay (b':=layP D3.b D.isF.length []) (layP_len (by decide) (by rw [hb3,List.length_append,List.length_replicate];omega))
 have hfin:({ D3 with b:=layP D3.b D.isF.length [] }:Dsk)=tookP D:=by rw [hb3,hD3,hD2,hD1];rfl
 rw [hfin] at h6
 simp (disch:=first|assumption|omega) only [go_sem,hτd4]
 rw [<-hτ5]
 refine hlay.mono ?_
 rintro v σ6 ⟨rfl,rfl⟩
 simp (disch:=first|assumption|omega) only [go_sem]
 exact retC_by (.refl _) (.refl _) ⟨rfl,B',cB',rB',fv,F,I',cI',rI',h6⟩
end
end Go.A
namespace Go.A
open Go.Proofs
/-! 26: tabular/tabulartop.live -/
def c26_17:ACode := .seq (.ops [ oq 0 (.mv (.v (.bool false)))]) (.seq (.ops [ oe 8 (.call 58 [(.v (.int .i64 3))]),oq 1 (.mv (.t 8))]) (.seq (.seq (.ops [ oq 9 (.mv (.t 1)),oq 10 (.eq .p false (.t 9) (.v .nilp))]) (.cond (.t 10) (.seq (.ops [ oq 0 (.mv (.v (.bool false)))]) .ret) .skip)) (.seq (.ops [ oq 12 (.mv (.t 1)),oe 13 (.call 59 [(.t 12)]),oq 11 (.mv (.t 13)),oq 14 (.ext 0 (.t 11)),oq 15 (.ext 1 (.t 11)),oq 2 (.mv (.t 14)),oq 3 (.mv (.t 15))]) (.seq (.ops [ oe 17 (.call 61 [(.v (.str [97,98]))]),oe 18 (.call 60 [(.t 17)]),oq 16 (.mv (.t 18)),oq 19 (.ext 0 (.t 16)),oq 20 (.ext 1 (.t 16)),oq 4 (.mv (.t 19)),oq 5 (.mv (.t 20))]) (.seq (.ops [ oe 22 (.call 62 [(.v (.str [45,50,46,53]))]),oq 21 (.mv (.t 22)),oq 23 (.ext 0 (.t 21)),oq 24 (.ext 1 (.t 21)),oq 6 (.mv (.t 23)),oq 7 (.mv (.t 24))]) (.seq (.ops [ oq 25 (.mv (.t 3)),oq 26 (.bin .eql (.t 25) (.v (.int .i64 0))),oq 27 (.mv (.t 26)),⟨some 28,some (27,true),.q (.mv (.t 2)),[]⟩,⟨some 29,some (27,true),.q (.bin .eql (.t 28) (.v (.int .i64 1))),[]⟩,oq 30 (.pick (.t 27) (.t 29) (.v (.bool false))),oq 31 (.mv (.t 30)),⟨some 32,some (31,true),.q (.mv (.t 5)),[]⟩,oq 33 (.pick (.t 31) (.t 32) (.v (.bool false))),oq 34 (.mv (.t 33)),⟨some 35,some (34,true),.q (.mv (.t 4)),[]⟩,⟨some 36,some (34,true),.q (.bin .eql (.t 35) (.v (.str [97,98]))),[]⟩,oq 37 (.pick (.t 34) (.t 36) (.v (.bool false))),oq 38 (.mv (.t 37)),⟨some 39,some (38,true),.q (.mv (.t 7)),[]⟩,oq 40 (.pick (.t 38) (.t 39) (.v (.bool false))),oq 41 (.mv (.t 40)),⟨some 42,some (41,true),.q (.mv (.t 6)),[]⟩,⟨some 43,some (41,true),.q (.bin .eql (.t 42) (.v (.int .i64 (-25000)))),[]⟩,oq 44 (.pick (.t 41) (.t 43) (.v (.bool false))),oq 0 (.mv (.t 44))]) .ret))))))
@[go_sem] def c26_17_wp:=wp_of c26_17.eq_1
def c26:AFn:=⟨45,[.t 0],c26_17⟩
theorem c26_ok:compF Tryz.prog Tryz.f26=some c26:=by kernel_rfl
theorem a26 {args:List AV} {σ:ASt} {R:AV->ASt->Prop} (hl:args.length<=45) (h:c26_17.wp Tryz.prog (RetQ [.t 0] R) (init args) σ):ACalls Tryz.prog 26 args σ R:=aFq Tryz.func26 c26_ok hl h
end Go.A
namespace Go.A
open Go.Proofs Go.Lib
theorem live_ok {σ:ASt} (hT:CkT σ):ACalls Tryz.prog 26 [] σ fun v σ'=>v = .bool true/\σ'=σ:=by
 have hN:=dknew_ok hT 3
 have e3:min (max (3:Int) 2) 60000=3:=by decide
 rw [e3] at hN
 have hP:=dparse_ok [45,50,46,53] (by decide)
 have hPd:parseD [45,50,46,53]=some (-25000):=by decide +kernel
 rw [hPd] at hP
 have hS:=fun τ (h:CkT τ)=>ckseal_ok h [97,98] (by decide)
 have hO:=fun τ (h:CkT τ)=>ckopen_ok h ([97,98]++le32 (ckN [97,98])) (by rw [List.length_append,le32_len];decide)
 rw [openP_seal] at hO
 have hra:resAV (some (-25000)) = .tuple [.int .i64 (-25000),.bool true]:=rfl
 rw [hra] at hP
 refine a26 (by simp) ?_
 simp (disch:=first|assumption|omega) only [go_sem]
 refine hN.mono ?_
 rintro v σ1 ⟨d,rfl,B,cB,rB,fv,F,I,cI,rI,hD⟩
 have hK:=dktake_new (hD.at hT) hD hT (newP_ok (by decide)) rfl (by decide:(1:Int)<3) rfl (by decide:(1:Int)<1000000000)
 simp (disch:=first|assumption|omega) only [go_sem]
 refine hK.mono ?_
 rintro v σ2 ⟨rfl,h2⟩
 have hi:(((newP 3).isF.length:Nat):Int)=1:=rfl
 have hC2:CkT σ2:=h2.at hT
 simp (disch:=first|assumption|omega) only [go_sem,hi]
 refine (hS _ hC2).mono ?_
 rintro v σ3 ⟨rfl,rfl⟩
 generalize [97,98]++le32 (ckN [97,98])=sx at *
 simp (disch:=first|assumption|omega) only [go_sem]
 refine (hO _ hC2).mono ?_
 rintro v σ4 ⟨rfl,rfl⟩
 simp (disch:=first|assumption|omega) only [go_sem]
 refine hP.use ?_
 simp (disch:=first|assumption|omega) only [go_sem]
 exact retC_by h2.drop (.refl _) ⟨rfl,rfl⟩
end Go.A
namespace Go.A
open Go.Proofs
/-! 6: tabular/tabularlaw20.TileBack -/
end Go.A
namespace Go.A
open Go.Proofs Go.Lib Go.Vint
theorem tileB_le {T:List TC} (hw:∀ c∈T,c.wfine) {k:Nat} (h1:1<=k) (h3:k<=3):(tileB T (k:Int)).length<=4000000:=by
 unfold tileB
 have hu:=uintB_le (u:=(k:Int)) (by omega)
 split
 ·have h2:=risingB_len (fullN_rises T 32 (Nat.le_refl _)) (by unfold natsI;rw [List.length_map];have:=fullN_le T 32;omega)
  have h4:(natsI (fullN T 32)).length<=32:=by unfold natsI;rw [List.length_map];exact fullN_le T 32
  have h5:=spB_le hw (fullN T 32)
  have h6:=fullN_le T 32
  have hu3:(uintB 3).length<=10:=by rename_i h;rw [h] at hu;exact hu
  rw [List.length_append,List.length_append]
  omega
 ·have:=wrT_le hw (k:Int) 32
  rw [List.length_append]
  omega
end Go.A
namespace Go.A
open Go.Proofs
/-! 7: tabular/tabulartop.TabularTiles -/
def c7_11:ACode := .ops [ oq 25 (.build (List.flatten (List.replicate 32 [(.int .i64 0),(.int .i64 0),(.str []),(.int .i64 0),(.int .i64 0),(.bool false),(.bool false),(.int .i64 0),(.int .i64 0),(.bool false),(.bool false),(.sl .full []),.nili])) []),oe 26 (.box (.t 25)),oq 5 (.mv (.t 26))]
def c7_35:ACode := .seq (.seq (.ops [ oq 27 (.mv (.t 6)),oq 28 (.mv (.t 0)),oq 29 (.len (.t 28)),oq 30 (.bin .lss (.t 27) (.t 29)),oq 31 (.mv (.t 30)),⟨some 32,some (31,true),.q (.mv (.t 6)),[]⟩,⟨some 33,some (31,true),.q (.bin .lss (.t 32) (.v (.int .i64 32))),[]⟩,oq 34 (.pick (.t 31) (.t 33) (.v (.bool false)))]) (.cond (.t 34) .skip (.exit 0))) (.seq (.block 1 (.seq (.ops [ oq 37 (.mv (.t 0)),oq 38 (.mv (.t 6)),oq 39 (.ia 1 (.t 37) (.t 38)),oq 40 (.ld none (.t 39)),oe 41 (.call 24 [(.t 40),(.v (.int .i64 60))]),oq 7 (.mv (.t 41))]) (.seq (.ops [ oq 43 (.mv (.t 7)),oe 44 (.call 27 [(.t 43)]),oq 42 (.mv (.t 44)),oq 45 (.ext 0 (.t 42)),oq 46 (.ext 1 (.t 42)),oq 47 (.ext 2 (.t 42)),oe 8 (.alloc [(.int .i64 0),(.int .i64 0),(.str []),(.int .i64 0),(.int .i64 0),(.bool false),(.bool false),(.int .i64 0),(.int .i64 0),(.bool false),(.bool false),(.sl .full [])]),oz (.store 12 (.t 8) (.t 45)),oq 9 (.mv (.t 46)),oq 10 (.mv (.t 47))]) (.seq (.ops [ oq 48 (.mv (.t 10)),oq 49 (.bin .eql (.t 48) (.v (.int .i64 0)))]) (.cond (.t 49) (.ops [ oq 50 (.mv (.t 5)),oq 51 (.mv (.t 6)),oq 52 (.ld (some 12) (.t 8)),oq 53 (.build [(.int .i64 0),(.int .i64 0),(.str []),(.int .i64 0),(.int .i64 0),(.bool false),(.bool false),(.int .i64 0),(.int .i64 0),(.bool false),(.bool false),(.sl .full []),.nili] [(0,12,(.t 52))]),oq 54 (.nc (.t 50)),oq 55 (.iaa 32 13 (.t 54) (.t 51)),oz (.store 13 (.t 55) (.t 53))]) (.seq (.ops [ oq 56 (.mv (.t 5)),oq 57 (.mv (.t 6)),oq 58 (.mv (.t 7)),oq 61 (.nc (.t 56)),oe 59 (.call 29 [(.t 58)]),oe 60 (.call 28 [(.t 59)]),oq 62 (.iaa 32 13 (.t 61) (.t 57)),oz (.store 13 (.t 62) (.t 60))]) (.seq (.ops [ oq 64 (.mv (.t 5)),oq 65 (.mv (.t 6)),oq 66 (.nc (.t 64)),oq 67 (.iaa 32 13 (.t 66) (.t 65)),oq 68 (.ld (some 13) (.t 67)),oe 69 (.call 31 [(.t 68)]),oe 70 (.call 30 [(.t 69)]),oq 63 (.mv (.t 70)),oq 71 (.ext 0 (.t 63)),oq 72 (.ext 1 (.t 63)),oq 11 (.mv (.t 71)),oq 12 (.mv (.t 72))]) (.seq (.ops [ oq 73 (.mv (.t 12))]) (.cond (.t 73) (.ops [ oq 74 (.mv (.t 5)),oq 75 (.mv (.t 6)),oq 76 (.build [(.int .i64 0),(.int .i64 0),(.str []),(.int .i64 0),(.int .i64 0),(.bool false),(.bool false),(.int .i64 0),(.int .i64 0),(.bool false),(.bool false),(.sl .full []),.nili] []),oq 77 (.nc (.t 74)),oq 78 (.iaa 32 13 (.t 77) (.t 75)),oz (.store 13 (.t 78) (.t 76))]) .skip))))))))) (.ops [ oq 35 (.mv (.t 6)),oq 36 (.bin .add (.t 35) (.v (.int .i64 1))),oq 6 (.mv (.t 36))]))
def c7_59:ACode := .seq (.ops [ oq 97 (.bin .lss (.t 96) (.v (.int .i64 32)))]) (.seq (.cond (.t 97) .skip (.exit 2)) (.seq (.block 3 (.seq (.ops [ oq 98 (.mv (.t 96)),oq 16 (.mv (.t 98))]) (.seq (.ops [ oq 99 (.mv (.t 13)),oq 100 (.mv (.t 16)),oq 101 (.nc (.t 99)),oq 102 (.iaa 32 13 (.t 101) (.t 100)),oq 103 (.ld (some 13) (.t 102)),oq 105 (.mv (.t 5)),oq 106 (.mv (.t 16)),oq 107 (.nc (.t 105)),oq 108 (.iaa 32 13 (.t 107) (.t 106)),oq 109 (.ld (some 13) (.t 108)),⟨some 104,none,.e (.call 9 [(.t 103)]),[⟨none,.ld (some 13) (.t 108),109⟩]⟩,oe 110 (.call 9 [(.t 109)]),oq 111 (.bin .neq (.t 104) (.t 110))]) (.cond (.t 111) (.seq (.ops [ oq 4 (.mv (.v (.bool false)))]) .ret) .skip)))) (.ops [ oq 112 (.bin .add (.t 96) (.v (.int .i64 1))),oq 96 (.mv (.t 112))])))
def c7_67:ACode := .seq (.ops [ oq 80 (.mv (.t 5)),oq 81 (.mv (.t 1)),oe 82 (.call 20 [(.t 80),(.t 81)]),oe 83 (.call 25 [(.t 82)]),oq 79 (.mv (.t 83)),oq 84 (.ext 0 (.t 79)),oq 85 (.ext 1 (.t 79)),oq 86 (.ext 2 (.t 79)),oq 13 (.mv (.t 84)),oq 14 (.mv (.t 85)),oq 15 (.mv (.t 86))]) (.seq (.seq (.ops [ oq 87 (.mv (.t 15)),oq 88 (.bin .neq (.t 87) (.v (.int .i64 0))),oq 89 (.mv (.t 88)),⟨some 90,some (89,false),.q (.mv (.t 14)),[]⟩,⟨some 91,some (89,false),.q (.mv (.t 1)),[]⟩,⟨some 92,some (89,false),.q (.bin .neq (.t 90) (.t 91)),[]⟩,oq 93 (.pick (.t 89) (.v (.bool true)) (.t 92))]) (.cond (.t 93) (.seq (.ops [ oq 94 (.mv (.t 0)),oe 95 (.call 32 [(.t 94)]),oq 4 (.mv (.t 95))]) .ret) .skip)) (.seq (.seq (.ops [ oq 96 (.mv (.v (.int .i64 0)))]) (.block 2 (.loop c7_59))) (.seq (.ops [ oq 4 (.mv (.v (.bool true)))]) .ret)))
def c7_69:ACode := .seq c7_11 (.seq (.seq (.ops [ oq 6 (.mv (.v (.int .i64 0)))]) (.block 0 (.loop c7_35))) c7_67)
def c7_70:ACode := .seq (.seq (.ops [ oq 19 (.mv (.t 1)),oq 20 (.bin .lss (.t 19) (.v (.int .i64 1))),oq 21 (.mv (.t 20)),⟨some 22,some (21,false),.q (.mv (.t 1)),[]⟩,⟨some 23,some (21,false),.q (.bin .gtr (.t 22) (.v (.int .i64 3))),[]⟩,oq 24 (.pick (.t 21) (.v (.bool true)) (.t 23))]) (.cond (.t 24) (.seq (.ops [ oq 4 (.mv (.v (.bool true)))]) .ret) .skip)) c7_69
def c7_71:ACode := .seq (.seq (.ops [ oe 17 (.call 26 []),oq 18 (.un .not (.t 17))]) (.cond (.t 18) (.seq (.ops [ oq 4 (.mv (.v (.bool false)))]) .ret) .skip)) c7_70
def c7_72:ACode := .seq (.ops [ oq 4 (.mv (.v (.bool false)))]) c7_71
@[go_sem] def c7_35_wp:=wp_of c7_35.eq_1
@[go_sem] def c7_59_wp:=wp_of c7_59.eq_1
@[go_sem] def c7_67_wp:=wp_of c7_67.eq_1
def c7:AFn:=⟨113,[.t 4],c7_72⟩
theorem c7_ok:compF Tryz.prog Tryz.f7=some c7:=by kernel_rfl
theorem a7 {args:List AV} {σ:ASt} {R:AV->ASt->Prop} (hl:args.length<=113) (h:c7_72.wp Tryz.prog (RetQ [.t 4] R) (init args) σ):ACalls Tryz.prog 7 args σ R:=aFq Tryz.func7 c7_ok hl h
end Go.A
end
