/- Part 12 of what TabularTiles leans on: Oy Ms Mv Mw Mx Mj Mk. -/
import Derived.Test.YtfnhdjigeedieaaGreatDoorRows
import Derived.ProofKit
import Derived.LaidMore
import Derived.OpenShut
import Derived.Stop.LaidErr
import Derived.MakeChecks
import Derived.SevenTiedAt
import Derived.Lay
import Derived.ChangeArms
import Derived.Lib.LaidU8
import Derived.Lib.LaidTab
import Derived.Shelf.Vars
import Derived.HandedShaped
import Derived.Test.YtfnhdjigeedieaaGreatDoorZTabularTilesk
set_option linter.defProp false
set_option linter.unusedSimpArgs false
set_option linter.unusedVariables false
set_option maxRecDepth 100000
section
attribute [local go_sem] reduceCtorEq Nat.reduceEqDiff Nat.reduceAdd Nat.reduceSub Nat.reduceMul Nat.reduceLeDiff Int.reduceLT Int.reduceLE Int.reduceEq Int.reduceNeg Int.reduceAdd Int.reduceSub Int.reduceMul true_imp_iff forall_const Nat.mul_one Int.reduceToNat Nat.reducePow Int.reducePow Bool.true_and Bool.false_and Bool.and_false
attribute [local go_sem ↓] reduceIte
namespace Go.A
open Go.Proofs Go.Lib Go.Vint
theorem tc_deep (c:TC):Go.A.deeps c.cs=c.cs:=by
 obtain ⟨⟨op,n,s,a,b,ks⟩,v⟩:=c
 have hv:Go.A.deep (voAV v)=voAV v:=by
  cases v with
  | none=>rfl
  | some v=>exact pv_deep v
 show Go.A.deeps (cellCs op n s a b (ks.map Nd.av) (voAV v))=cellCs op n s a b (ks.map Nd.av) (voAV v)
 unfold cellCs
 simp only [deeps_cons,deeps_nil,deep_int,deep_str,deep_bool,deep_sl,deeps_map,hv]
theorem tile_deep (T:List TC):Go.A.deeps (tileCs T)=tileCs T:=by
 unfold tileCs
 induction T with
 | nil=>rfl
 | cons c T ih=>rw [List.flatMap_cons,deeps_app,tc_deep,ih]
theorem soft_zero {T:List TC} {i:Nat} (h:i<T.length):Go.A.deeps ((tileCs T).take (i*13)++zCells .nili++(tileCs T).drop (i*13+13))=tileCs (T.set i zTC):=by
 have hs:=flat_set TC.cs_len zTC T i h
 have hd:∀ l:List AV,Go.A.deeps l=l.map Go.A.deep:=fun l=>by
  induction l with
  | nil=>rfl
  | cons x l ih=>rw [deeps_cons,ih];rfl
 have ht:=tile_deep T
 rw [hd] at ht
 have hz:Go.A.deeps (zCells .nili)=zTC.cs:=by rw [zCells_deep];rfl
 rw [deeps_app,deeps_app,hz,hd,hd,List.map_take,List.map_drop,ht]
 exact hs
theorem sC_ill {s:List UInt8} (h:(sC s).ill):illS s:=by
 obtain ⟨hf,t,ht,hs⟩:=h
 have h6:(s.take 60).length<=60:=by rw [List.length_take];omega
 unfold illS
 unfold sC at hf ht
 by_cases he:(parseR (s.take 60)).2.2=0
 ·rw [if_pos he] at ht;cases ht
 rw [if_neg he] at ht
 by_cases hb:(failedP (inputP (s.take 60))).2=true
 ·rw [if_pos hb] at ht;cases ht
 rw [if_neg hb] at ht
 have ht:inputP (s.take 60) = .text t:=ht
 have hl:=inputP_text ht
 rw [ht]
 exact getV_ill (r := []) (by rw [List.drop_zero,List.append_nil]) (by omega) hs
theorem tt_c11:c7_11 = .ops [⟨some 25,none,.q (.build z416 []),[]⟩,⟨some 26,none,.e (.box (.t 25)),[]⟩,⟨some 5,none,.q (.mv (.t 26)),[]⟩]:=by rfl
set_option maxHeartbeats 2000000 in
theorem tt_tail {σ S:ASt} {p:Nat} {T:List TC} (hTl:T.length=32) (hTh:∀ c∈T,c.half) (hTA:TileAt T p S) (T2:Tab S) (M2:MaxL S) (U2:U8 S) (dd:Drop S σ) {LA:List AV}
  (hsig:(∃ c∈T,c.ill)->ACalls Tryz.prog 32 [.sl .shr LA] S fun v σ'=>v = .bool true/\σ'=S) {k:Nat} (hk1:1<=k) (hk3:k<=3) (a1:AFr) (hf:a1 0 = .sl .shr LA/\a1 1 = .int .i64 k/\a1 5 = .ptr p 0) :
  ACode.wp Tryz.prog c7_67 (RetQ [.t 4] fun v σ'=>v = .bool true/\σ'=σ) a1 S:=by
 have hW:=twrite_ok hTA (fun c hc=>(hTh c hc).made.wf) (k:Int) (by omega)
 have hln:=tileB_le (fun c hc=>(hTh c hc).made.wf) hk1 hk3
 have hR:=tread_ok U2 (tileB T (k:Int)) (by omega)
 by_cases hill:∃ c∈T,c.ill
 ·have hsig:=hsig hill
  have he:=tileR_ill hTl hTh hk1 hk3 hill
  generalize tileR (tileB T (k:Int))=R at *
  generalize tileB T (k:Int)=s at *
  simp (disch:=first|assumption|omega) only [go_sem,hf]
  refine hW.mono ?_
  rintro v s3 ⟨rfl,rfl⟩
  simp (disch:=first|assumption|omega) only [go_sem]
  refine hR.mono ?_
  rintro v s4 (⟨he2,_⟩|⟨_,rfl,rfl⟩)
  ·exact absurd he2 he
  obtain ⟨T',k',e⟩:=R
  have he:¬ e=0:=he
  dsimp only
  simp (disch:=first|assumption|omega) only [go_sem,hf,he]
  refine hsig.mono ?_
  rintro v s5 ⟨rfl,rfl⟩
  simp (disch:=first|assumption|omega) only [go_sem]
  exact retC_by dd (.refl _) ⟨rfl,rfl⟩
 ·have hTn:∀ c∈T,c.neat:=fun c hc=>(hTh c hc).neat fun h=>hill ⟨c,hc,h⟩
  obtain ⟨T',h3,h4,h5⟩:=tileR_back hTl hTn hk1 hk3
  rw [h3] at hR
  clear h3 hsig
  generalize tileB T (k:Int)=s at *
  simp (disch:=first|assumption|omega) only [go_sem,hf]
  refine hW.mono ?_
  rintro v s3 ⟨rfl,rfl⟩
  simp (disch:=first|assumption|omega) only [go_sem]
  refine hR.mono ?_
  rintro v s4 (⟨he,q,hq,rfl,rfl⟩|⟨he,_⟩)
  rotate_left
  ·exact absurd rfl he
  dsimp only
  have hpq:p≠q:=by rintro rfl;obtain ⟨cs,h⟩:=hTA.ex;rw [hq] at h;cases h
  have hTP:=hTA.to (σ':=s3.set q (some (.obj (tileCs T')))) (ASt.set_ne hpq)
  have hTQ:=TileAt.of (σ:=s3.set q (some (.obj (tileCs T')))) h4 (ASt.set_same _ _ _)
  have dq:=(Drop.set (r:=some (.obj (tileCs T'))) hq).trans dd
  have T3:=Tab.set (r:=some (.obj (tileCs T'))) T2 hq
  have M3:=MaxL.set (r:=some (.obj (tileCs T'))) M2 hq
  generalize s3.set q (some (.obj (tileCs T')))=s5 at *
  simp (disch:=first|assumption|omega) only [go_sem,hf,eq_self]
  refine wLq (fun (i:Nat) a s2=>i<=32/\(a 5 = .ptr p 0/\a 13 = .ptr q 0/\a 96 = .int .i64 i)/\s2=s5) (fun i=>32-i) 0 ⟨Nat.zero_le _,?_,rfl⟩ ?_
  ·simp (disch:=first|assumption|omega) only [go_sem,hf]
  rintro i a2 s6 ⟨hi,hf,rfl⟩
  by_cases hlt:i<32
  ·have hlt':(i:Int)<32:=by omega
   obtain ⟨c,hc⟩:∃ c,T[i]? = some c:=⟨_,List.getElem?_eq_getElem (by omega)⟩
   obtain ⟨d,hd⟩:∃ d,T'[i]? = some d:=⟨_,List.getElem?_eq_getElem (by omega)⟩
   have hcm:=(hTn c (List.mem_of_getElem? hc)).made.fine
   have hdc:=h5 i c d hc hd
   have hX:=tcText_ok T3 M3 c hcm
   have hY:=tcText_ok T3 M3 d (by rw [hdc];exact back_fine hcm)
   have htx:d.text=c.text:=by rw [hdc];exact back_text c
   rw [htx] at hY
   have hl1:=hTP.cell i c hc
   have hl2:=hTQ.cell i d hd
   have hn0:((i:Nat):Int).toNat=i:=rfl
   generalize c.text=tx at *
   generalize c.av=cv at *
   generalize d.av=dv at *
   simp (disch:=first|assumption|omega) only [go_sem,hf,hlt',hl1,hl2,hn0]
   refine hY.mono ?_
   rintro v s7 ⟨rfl,rfl⟩
   simp (disch:=first|assumption|omega) only [go_sem,hl1]
   refine hX.mono ?_
   rintro v s8 ⟨rfl,rfl⟩
   simp (disch:=first|assumption|omega) only [go_sem,hf,eq_self]
   exact ⟨i+1,by omega,by omega,rfl⟩
  ·have hlt':¬ (i:Int)<32:=by omega
   simp (disch:=first|assumption|omega) only [go_sem,hf,hlt']
   exact retC_by dq (.refl _) ⟨rfl,rfl⟩
set_option maxHeartbeats 4000000 in
theorem TabularTiles_any {σ:ASt} (hCk:CkT σ) (hT:Tab σ) (hM:MaxL σ) (hU:U8 σ) (hV:LV σ) (l:List (List UInt8)) (k:Int):ACalls Tryz.prog 7 [.sl .shr (l.map AV.str),.int .i64 k] σ fun v σ'=>v = .bool true/\σ'=σ:=by
 have hL:=live_ok hCk
 have hll:((l.map AV.str).length:Int)=(l.length:Int):=by rw [List.length_map]
 have hlx:∀ (i:Nat) s,l[i]? = some s->(l.map AV.str)[i]? = some (.str s):=fun i s h=>by rw [List.getElem?_map,h];rfl
 have hsig:=fun (τ:ASt) (h:U8 τ) (n:Nat) (s:List UInt8) (h1:l[n]? = some s) (h2:n<32) (h3:illS s)=>topsigns_ok h l h1 h2 h3
 generalize l.map AV.str=LA at *
 obtain ⟨Z,hZ⟩:∃ Z,Z=z416:=⟨_,rfl⟩
 have hs1:=soft416z
 have hl416:=z416_len
 have hc1:=tt_c11
 rw [<-hZ] at hs1 hc1 hl416
 refine a7 (by simp) ?_
 rw [c7_72.eq_1,c7_71.eq_1,c7_70.eq_1,c7_69.eq_1,hc1]
 clear hZ hc1
 simp (disch:=first|assumption|omega) only [go_sem]
 refine hL.mono ?_
 rintro v σ1 ⟨rfl,rfl⟩
 by_cases hk1:k<1
 ·simp (disch:=first|assumption|omega) only [go_sem,hk1]
  exact retC_by (.refl _) (.refl _) ⟨rfl,rfl⟩
 by_cases hk3:3<k
 ·simp (disch:=first|assumption|omega) only [go_sem,hk1,hk3]
  exact retC_by (.refl _) (.refl _) ⟨rfl,rfl⟩
 simp (disch:=first|assumption|omega) only [go_sem,hk1,hk3]
 refine boxC_by rfl fun p hp=>?_
 have hsd:SDrop (σ1.set p (some (.obj Z))) (σ1.set p (some (.obj (tileCs (sN l 0))))):=SDrop.cong (SDrop.refl _) hs1
 have T2:=fun r=>Tab.set (r:=r) hT hp
 have M2:=fun r=>MaxL.set (r:=r) hM hp
 have U2:=fun r=>U8.set (r:=r) hU hp
 have V2:=fun r=>lv_add20 (r:=r) hV hp
 have dd:=fun r=>Drop.set (r:=r) hp
 obtain ⟨J,hJ⟩:∃ J:Nat->AFr->ASt->Prop,J=fun i a s2=>(i<=l.length/\i<=32)/\(a 0 = .sl .shr LA/\a 1 = .int .i64 k/\a 5 = .ptr p 0/\a 6 = .int .i64 i)/\s2=σ1.set p (some (.obj (tileCs (sN l i)))):=⟨_,rfl⟩
 simp (disch:=first|assumption|omega) only [go_sem]
 refine wp_loop_by J (fun i=>32-i) 0 (Dr.sdrop hsd ?_) ?_
 ·rw [hJ]
  refine ⟨⟨Nat.zero_le _,Nat.zero_le _⟩,?_,rfl⟩
  simp (disch:=first|assumption|omega) only [go_sem]
 clear hsd
 intro i a1 s2 hjj
 rw [hJ] at hjj
 obtain ⟨⟨hi,hi32⟩,hf,rfl⟩:=hjj
 by_cases hlt:i<l.length/\i<32
 ·have hl1:(i:Int)<(l.length:Int):=by omega
  have hl2:(i:Int)<32:=by omega
  obtain ⟨s,hs⟩:∃ s,l[i]? = some s:=⟨_,List.getElem?_eq_getElem hlt.1⟩
  have hx:=hlx i s hs
  have hsu:sN l (i+1)=(sN l i).set i (sC s):=by
   rw [sN_succ]
   congr 2
   rw [List.getD_eq_getElem?_getD,hs];rfl
  have hTl:=sN_len l i
  generalize sN l i=T at *
  have hC:=lcut_ok s 60
  have h60:(s.take 60).length<=60:=by rw [List.length_take];omega
  have hP:=fun (τ:ASt) (h:U8 τ) (h2:LV τ)=>parseR_ok h h2 (s.take 60) (by omega)
  have hI:=input_ok (s.take 60) (by omega)
  have hPl:=tplain_ok (inputP (s.take 60))
  have hVa:=tcValue_ok ⟨zNd,some (inputP (s.take 60))⟩
  have hFa:=failed_ok (inputP (s.take 60))
  have hcv:TC.val ⟨zNd,some (inputP (s.take 60))⟩=inputP (s.take 60):=rfl
  rw [hcv] at hVa
  have hCe:sC s=if (parseR (s.take 60)).2.2=0 then ⟨(parseR (s.take 60)).1,none⟩ else if (failedP (inputP (s.take 60))).2=true then zTC else ⟨zNd,some (inputP (s.take 60))⟩:=rfl
  rw [hCe] at hsu
  clear hCe hlx hsig hcv
  generalize s.take 60=s6 at *
  generalize parseR s6=R at *
  obtain ⟨⟨op,num,ss,a,b,ks⟩,pl,e⟩:=R
  dsimp only at hsu hP
  rw [Nd.av_cs] at hP
  generalize inputP s6=v at *
  generalize failedP v=fl at *
  obtain ⟨fn,fb⟩:=fl
  dsimp only at hsu hFa
  have hcl:=flat_len TC.cs_len T
  have hcd:∀ T,T.flatMap TC.cs=tileCs T:=fun _=>rfl
  rw [hcd] at hcl
  have hb1:i*13+13<=(tileCs T).length:=by omega
  by_cases he:e=0
  ·rw [if_pos he] at hsu
   have hset1:=flat_set TC.cs_len (⟨.mk op num ss a b ks,none⟩:TC) T i (by omega)
   have hce:TC.cs ⟨.mk op num ss a b ks,none⟩=cellCs op num ss a b (ks.map Nd.av) .nili:=rfl
   rw [<-hsu,hcd,hcd,hce] at hset1
   unfold cellCs at hset1
   unfold Nd.cs at hP
   generalize ks.map Nd.av=L at *
   generalize hC2:tileCs (sN l (i+1))=C2 at *
   generalize hC1:tileCs T=C1 at *
   simp (disch:=first|assumption|omega) only [go_sem,hf,hll,hl1,hl2,hx]
   refine hC.use ?_
   simp (disch:=first|assumption|omega) only [go_sem]
   refine (hP _ (U2 _) (V2 _)).mono ?_
   rintro v2 σ2 ⟨rfl,rfl⟩
   simp (disch:=first|assumption|omega) only [go_sem]
   refine aBq fun c8 h8=>?_
   have h8p:c8≠p:=by rintro rfl;rw [ASt.set_same] at h8;cases h8
   rw [ASt.set_ne h8p] at h8
   simp (disch:=first|assumption|omega) only [go_sem,he,hf,hb1,hset1,Int.toNat_natCast,Nat.zero_add]
   refine ⟨i+1,by dsimp only;omega,?_⟩
   rw [set_swap h8p,ASt.set_set]
   refine Dr.drop (Drop.set (by rw [ASt.set_ne h8p];exact h8)) ?_
   rw [hJ]
   refine ⟨by omega,?_,by rw [hC2]⟩
   simp (disch:=first|assumption|omega) only [go_sem,hf]
  ·rw [if_neg he] at hsu
   have hset1:=flat_set TC.cs_len (⟨zNd,some v⟩:TC) T i (by omega)
   have hTl2:(T.set i (⟨zNd,some v⟩:TC)).length=32:=by rw [List.length_set];exact hTl
   have hcl2:=flat_len TC.cs_len (T.set i (⟨zNd,some v⟩:TC))
   have hat:(T.set i (⟨zNd,some v⟩:TC))[i]? = some ⟨zNd,some v⟩:=List.getElem?_set_self (by omega)
   have hld:=flat_at TC.cs_len _ _ _ hat
   have hf1:=TC.cs_leaf (⟨zNd,some v⟩:TC)
   have hn1:=TC.cs_len (⟨zNd,some v⟩:TC)
   have hz:=soft_zero (T:=T.set i (⟨zNd,some v⟩:TC)) (i:=i) (by omega)
   have hzz:(T.set i (⟨zNd,some v⟩:TC)).set i zTC=T.set i zTC:=List.set_set ..
   rw [hzz] at hz
   rw [hcd,hcd] at hset1
   rw [hcd] at hcl2 hld
   rw [TC.av_cs] at hPl hVa
   have htk:(TC.cs (⟨zNd,some v⟩:TC)).take 13=TC.cs (⟨zNd,some v⟩:TC):=List.take_of_length_le (by omega)
   unfold Nd.cs at hP
   generalize ks.map Nd.av=L at *
   generalize hC2:tileCs (T.set i (⟨zNd,some v⟩:TC))=C2 at *
   generalize hC1:tileCs T=C1 at *
   generalize TC.cs (⟨zNd,some v⟩:TC)=mcs at *
   generalize v.av=va at *
   have hb3:i*13+13<=C2.length:=by omega
   simp (disch:=first|assumption|omega) only [go_sem,hf,hll,hl1,hl2,hx]
   refine hC.use ?_
   simp (disch:=first|assumption|omega) only [go_sem]
   refine (hP _ (U2 _) (V2 _)).mono ?_
   rintro v2 σ2 ⟨rfl,rfl⟩
   simp (disch:=first|assumption|omega) only [go_sem]
   refine aBq fun c8 h8=>?_
   have h8p:c8≠p:=by rintro rfl;rw [ASt.set_same] at h8;cases h8
   rw [ASt.set_ne h8p] at h8
   simp (disch:=first|assumption|omega) only [go_sem,he,hf]
   refine hI.use ?_
   simp (disch:=first|assumption|omega) only [go_sem]
   refine hPl.use ?_
   simp (disch:=first|assumption|omega) only [go_sem,hf,hb1,hset1,hf1,hn1,hld,hb3,Int.toNat_natCast,Nat.zero_add]
   unfold zCells at hz
   refine hVa.use ?_
   simp (disch:=first|assumption|omega) only [go_sem]
   refine hFa.use ?_
   cases fb with
   | true=>
     rw [if_pos rfl] at hsu
     simp (disch:=first|assumption|omega) only [go_sem,hf,hb3,Int.toNat_natCast,Nat.zero_add]
     refine ⟨i+1,by dsimp only;omega,?_⟩
     simp only [set_swap h8p,ASt.set_set]
     refine Dr.sdrop ((SDrop.soft (b:=p) ((ASt.set_ne (Ne.symm h8p)).trans (ASt.set_same _ _ _))).trans (σ3:=σ1.set p (some (.obj (tileCs (T.set i zTC))))) ?_) ?_
     ·rw [hz,set_swap h8p,ASt.set_set]
      exact Drop.set (by rw [ASt.set_ne h8p];exact h8)
     rw [hJ]
     refine ⟨by omega,?_,by rw [hsu]⟩
     simp (disch:=first|assumption|omega) only [go_sem,hf]
   | false=>
     rw [if_neg (by simp)] at hsu
     simp (disch:=first|assumption|omega) only [go_sem,hf]
     refine ⟨i+1,by dsimp only;omega,?_⟩
     simp only [set_swap h8p,ASt.set_set]
     refine Dr.drop (Drop.set (by rw [ASt.set_ne h8p];exact h8)) ?_
     rw [hJ]
     refine ⟨by omega,?_,by rw [hsu,hC2]⟩
     simp (disch:=first|assumption|omega) only [go_sem,hf]
 ·obtain ⟨kn,hkn⟩:∃ kn:Nat,k=(kn:Int):=⟨k.toNat,by omega⟩
  subst hkn
  have hTl:=sN_len l i
  have hTA:=TileAt.of (σ:=σ1.set p (some (.obj (tileCs (sN l i))))) hTl (ASt.set_same _ _ _)
  have hTh:=sN_half l i
  have hsi:(∃ c∈sN l i,c.ill)->ACalls Tryz.prog 32 [.sl .shr LA] (σ1.set p (some (.obj (tileCs (sN l i))))) fun v σ'=>v = .bool true/\σ'=σ1.set p (some (.obj (tileCs (sN l i)))):=by
   rintro ⟨c,hc,hci⟩
   obtain ⟨j,hj⟩:=List.getElem?_of_mem hc
   have hj32:j<32:=by have:=(List.getElem?_eq_some_iff.1 hj).1;omega
   rw [sN_at l i j hj32] at hj
   injection hj with hj
   by_cases hji:j<i
   ·rw [if_pos hji] at hj
    obtain ⟨s,hs⟩:∃ s,l[j]? = some s:=⟨_,List.getElem?_eq_getElem (by omega)⟩
    have hg:l.getD j []=s:=by rw [List.getD_eq_getElem?_getD,hs];rfl
    rw [hg] at hj
    rw [<-hj] at hci
    exact hsig _ (U2 _) j s hs hj32 (sC_ill hci)
   ·rw [if_neg hji] at hj
    rw [<-hj] at hci
    have:=ill_full hci
    exact absurd this (by decide +kernel)
  have hG:=fun a1 h=>tt_tail hTl hTh hTA (T2 _) (M2 _) (U2 _) (dd _) hsi (k:=kn) (by omega) (by omega) a1 h
  obtain ⟨F,hF⟩:∃ F,F=ACode.wp Tryz.prog c7_67:=⟨_,rfl⟩
  by_cases h1:i<l.length
  ·have h1':(i:Int)<(l.length:Int):=by omega
   have h2':¬ (i:Int)<32:=by omega
   simp (disch:=first|assumption|omega) only [go_sem,hf,hll,h1',h2',←hF]
   rw [hF]
   refine hG _ ?_
   simp (disch:=first|assumption|omega) only [go_sem,hf]
  ·have h1':¬ (i:Int)<(l.length:Int):=by omega
   simp (disch:=first|assumption|omega) only [go_sem,hf,hll,h1',←hF]
   rw [hF]
   refine hG _ ?_
   simp (disch:=first|assumption|omega) only [go_sem,hf]
end Go.A
namespace Go.Proofs.YtfnhdjigeedieaaGreatDoor
open Go Go.ChangeShapes Go.WideShapes Go.ChangeAt Go.RowKit Go.A Go.Lib Go.Shelf
theorem row_own:ownKnob Tryz.prog.godebug=none:=by kernel_rfl
theorem row_laid:laidOutB Tryz.prog=true:=by kernel_rfl
theorem first_eq:Rows.laid_unicode_utf8_first=firstData:=by kernel_rfl
theorem acc_eq:(Rows.laid_unicode_utf8_acceptRanges:DataW Unit)=acceptData:=by kernel_rfl
theorem u8_extra:U8Extra Tryz.prog Tryz.lays260_ren:=⟨by kernel_rfl,by kernel_rfl,by kernel_rfl,by kernel_rfl,by kernel_rfl,by kernel_rfl,by kernel_rfl⟩
theorem var_size {P:Program} {w:World} {n:String} {d:DataW Unit} (h:VarReads P w n d) {g:Nat} (hg:P.globalNamed n=some g) {t e:TypeId} {k:Nat} (hty:(P.globals[g]?).map (·.type)=some t) (ht:P.underlying t=some (.array k e)) :
  ∃ cs T fr,w.heap[g]? = some (.cells cs T fr)/\cs.size=P.cellsOf t:=by
 obtain ⟨g',t',cs,fuel,p,hg',hty',hvar,hd⟩:=h
 obtain rfl:=Option.some.inj (hg.symm.trans hg')
 obtain rfl:=Option.some.inj (hty.symm.trans hty')
 have hlen:cs.toList.length=P.cellsOf t:=by
  cases fuel with
  | zero=>simp [DataW.trod] at hd
  | succ fuel=>
    simp only [DataW.trod,ht] at hd
    split at hd
    ·assumption
    ·cases hd
 unfold World.var? at hvar
 rw [hg,Option.bind_some] at hvar
 split at hvar
 ·rename_i cs' T fr hheap
  injection hvar with hvar
  subst hvar
  exact ⟨_,_,_,hheap,by simpa using hlen⟩
 ·cases hvar
theorem ints_reps {σ:ASt} {w:World} {k:IntKind}:∀ zs:List Int,Reps σ w (zs.map (AV.int k)) (zs.map (Value.int k))
 | [] => .nil
 | z::zs => .cons (.int k z) (ints_reps zs)
theorem fix_ok {σ:ASt} {W:World} {b:Nat} {zs:List Int} (hs:σ b=some (.fix (zs.map (AV.int .u8)))) {cs:Array Value} {T:TypeId} {fr:Nat×Nat} (hh:W.heap[b]? = some (.cells cs T fr)) (hsz:cs.size=zs.length)
  (hc:∀ j z,zs[j]? = some z->W.cell? ⟨b,j,none⟩=some (.int .u8 z)):RoleOk σ W b (.fix (zs.map (AV.int .u8))):=by
 have hlt:b<W.heap.size:=(Array.getElem?_eq_some_iff.1 hh).1
 refine ⟨At.mk' (ints_reps _) (fun j _=>⟨hlt,.inr (.inl ⟨_,hs⟩)⟩) (fun j v hj=>?_),cs,T,fr,hh,by simpa using hsz⟩
 rw [List.getElem?_map] at hj
 obtain ⟨z,hz,rfl⟩:=Option.map_eq_some_iff.1 hj
 rw [Nat.zero_add]
 exact hc j z hz
def stOf:List (Nat×List AV)->ASt
 | [],_=>none
 | p::ps,b=>if b=p.1 then some (.fix p.2) else stOf ps b
theorem stOf_fix:∀ {ps:List (Nat×List AV)} {b:Nat} {r:Role},stOf ps b=some r->∃ l,r = .fix l
 | [],_,_,h=>by cases h
 | p::ps,b,r,h=>by
   simp only [stOf] at h
   split at h
   ·injection h with h;exact ⟨_,h.symm⟩
   ·exact stOf_fix h
theorem stOf_mem:∀ {ps:List (Nat×List AV)} {b:Nat} {r:Role},stOf ps b=some r->∃ l,(b,l)∈ps/\r = .fix l
 | [],_,_,h=>by cases h
 | p::ps,b,r,h=>by
   simp only [stOf] at h
   split at h
   ·rename_i hb
    injection h with h
    subst hb
    exact ⟨p.2,List.mem_cons_self,h.symm⟩
   ·obtain ⟨l,hl,he⟩:=stOf_mem h
    exact ⟨l,List.mem_cons_of_mem _ hl,he⟩
theorem still_fix {σ:ASt} (hfx:∀ b r,σ b=some r->∃ l,r = .fix l) {w:World} {b o:Nat} (h:b<w.heap.size):Still σ w b o:=by
 refine ⟨h,?_⟩
 cases hb:σ b with
 | none=>exact .inl rfl
 | some r=>obtain ⟨l,rfl⟩:=hfx b r hb;exact .inr (.inl ⟨_,rfl⟩)
end Go.Proofs.YtfnhdjigeedieaaGreatDoor
namespace Go.A
section
variable {σ:ASt} {w:World}
theorem Still.fixed (hfx:∀ b r,σ b=some r->∃ l,r = .fix l) {b o:Nat} (h:Still noRole w b o):Still σ w b o:=by
 refine ⟨h.1,?_⟩
 cases hb:σ b with
 | none=>exact .inl rfl
 | some r=>obtain ⟨l,rfl⟩:=hfx b r hb;exact .inr (.inl ⟨_,rfl⟩)
theorem Stands.fixed (hfx:∀ b r,σ b=some r->∃ l,r = .fix l) (b:Nat):Stands σ b:=by
 refine ⟨fun cs h=>?_,fun l p h=>?_,fun T cs h=>?_⟩<;>(obtain ⟨l,hl⟩:=hfx b _ h;cases hl)
theorem SK.ok_fixed (hfx:∀ b r,σ b=some r->∃ l,r = .fix l) {k:SK} {b o n c sz:Nat} (h:k.ok noRole w b o n c sz):k.ok σ w b o n c sz:=by
 cases k with
 | shr=>trivial
 | full=>exact h
 | tok t s T=>exact ⟨h.1,h.2.1,h.2.2.1,h.2.2.2.1,Stands.fixed hfx b⟩
mutual
theorem Rep.fixed (hfx:∀ b r,σ b=some r->∃ l,r = .fix l):∀ {a:AV} {v:Value},Rep noRole w a v->Rep σ w a v
 | _,_,.any v => .any v
 | _,_,.bool b => .bool b
 | _,_,.int k n => .int k n
 | _,_,.str l => .str l
 | _,_,.ptr b o => .ptr b o
 | _,_,.imm h1 => .imm (h1.fixed hfx)
 | _,_,.nilp => .nilp
 | _,_,.slE A c => .slE A c
 | _,_,.slN => .slN
 | _,_,.sl h1 h2 h3 h4 h5 => .sl (h1.fixed hfx) h2 h3 (SK.ok_fixed hfx h4) h5
 | _,_,.msl b o n c => .msl b o n c
 | _,_,.agg h1 => .agg (h1.fixed hfx)
 | _,_,.tuple h1 => .tuple (h1.fixed hfx)
 | _,_,.iface h1 => .iface (h1.fixed hfx)
 | _,_,.nili => .nili
 | _,_,.func h1 h2 => .func (h1.fixed hfx) (h2.fixed hfx)
 | _,_,.nilf => .nilf
theorem Reps.fixed (hfx:∀ b r,σ b=some r->∃ l,r = .fix l):∀ {avs:List AV} {vs:List Value},Reps noRole w avs vs->Reps σ w avs vs
 | _,_,.nil => .nil
 | _,_,.cons h1 h2 => .cons (h1.fixed hfx) (h2.fixed hfx)
theorem At.fixed (hfx:∀ b r,σ b=some r->∃ l,r = .fix l):∀ {b o:Nat} {avs:List AV},At noRole w b o avs->At σ w b o avs
 | _,_,_,.nil b o => .nil b o
 | _,_,_,.cons h1 h2 h3 h4 => .cons (h1.fixed hfx) h2 (h3.fixed hfx) (h4.fixed hfx)
theorem Row.fixed (hfx:∀ b r,σ b=some r->∃ l,r = .fix l):∀ {b o sz:Nat} {avs:List AV},Row noRole w b o sz avs->Row σ w b o sz avs
 | _,_,_,_,.nil b o sz => .nil b o sz
 | _,_,_,_,.cons h1 h2 h3 => .cons h1 (h2.fixed hfx) (h3.fixed hfx)
end
end
end Go.A
namespace Go.Proofs.YtfnhdjigeedieaaGreatDoor
open Go Go.ChangeShapes Go.WideShapes Go.ChangeAt Go.RowKit Go.A Go.Lib Go.Shelf
theorem u8_roles {σ : ASt} {W : World} (h3 : VarReads Tryz.prog W "unicode/utf8.first" firstData) (h4 : VarReads Tryz.prog W "unicode/utf8.acceptRanges" acceptData) :
  (σ 1=some (.fix (firstTab.map (AV.int .u8)))->RoleOk σ W 1 (.fix (firstTab.map (AV.int .u8))))/\(σ 2=some (.fix (accTab.map (AV.int .u8)))->RoleOk σ W 2 (.fix (accTab.map (AV.int .u8)))):=by
 have hT:=utf8Tabs_of_reads (ρ:=Tryz.lays260_ren) Tryz.lays260 u8_extra h3 h4
 obtain ⟨hT1,hT2⟩:=hT
 have hT1:∀ c,c<256->W.cell? ⟨1,c,none⟩=some (.int .u8 (firstT c)):=hT1
 have hT2:∀ i,i<16->W.cell? ⟨2,2*i,none⟩=some (.int .u8 (accLo i))/\W.cell? ⟨2,2*i+1,none⟩=some (.int .u8 (accHi i)):=hT2
 constructor
 ·intro hs
  obtain ⟨cs,T,fr,hh,hsz⟩:=var_size h3 (g:=1) (by kernel_rfl) u8_extra.y3 (Tryz.lays260.t119)
  refine fix_ok hs hh (hsz.trans (by kernel_rfl)) fun j z hj=>?_
  have hl:=(List.getElem?_eq_some_iff.1 hj).1
  simp only [firstTab,List.length_map,List.length_range] at hl
  simp only [firstTab,List.getElem?_map,List.getElem?_range hl,Option.map_some,Option.some.injEq] at hj
  subst hj
  exact hT1 j hl
 ·intro hs
  obtain ⟨cs,T,fr,hh,hsz⟩:=var_size h4 (g:=2) (by kernel_rfl) u8_extra.y4 (Tryz.lays260.t139)
  refine fix_ok hs hh (hsz.trans (by kernel_rfl)) fun j z hj=>?_
  have hl:=(List.getElem?_eq_some_iff.1 hj).1
  have key:∀ j,j<32->accTab[j]? = some (if j % 2=0 then (accLo (j / 2):Int) else accHi (j / 2)):=by decide
  have hl:j<32:=hl
  rw [key j hl] at hj
  injection hj with hj
  subst hj
  obtain ⟨g1,g2⟩:=hT2 (j / 2) (by omega)
  split
  ·rw [show 2*(j / 2)=j by omega] at g1;exact g1
  ·rw [show 2*(j / 2)+1=j by omega] at g2;exact g2
theorem pow_role {σ : ASt} {W : World} (hfx : ∀ b r, σ b = some r → ∃ l, r = .fix l) (h3 : VarReads Tryz.prog W "internal/strconv.uint64pow10" (Lib.tabData .u64 Lib.pow10Tab)) :
  RoleOk σ W 5 (.fix (Lib.pow10Tab.map (AV.int .u64))):=by
 obtain ⟨g',t',cs,fuel,p,hg',ht',hvar,hd⟩:=h3
 obtain rfl := Option.some.inj ((show Tryz.prog.globalNamed "internal/strconv.uint64pow10" = some 5 by kernel_rfl).symm.trans hg')
 obtain rfl:=Option.some.inj ((show (Tryz.prog.globals[5]?).map (·.type)=some 273 by kernel_rfl).symm.trans ht')
 have hcs:=cells_of_tab (n:=20) (e:=94) (k := .u64) (by kernel_rfl) (by kernel_rfl) (by kernel_rfl) (by kernel_rfl) hd
 unfold World.var? at hvar
 rw [show Tryz.prog.globalNamed "internal/strconv.uint64pow10" = some 5 by kernel_rfl, Option.bind_some] at hvar
 split at hvar
 ·rename_i cs' T fr hheap
  injection hvar with hvar
  have hlt:5<W.heap.size:=(Array.getElem?_eq_some_iff.1 hheap).1
  have he:cs'=(Lib.pow10Tab.map fun z=>Value.int .u64 z).toArray:=by rw [hvar];exact Array.ext' (by simpa using hcs)
  refine ⟨At.mk' (ints_reps _) (fun j _=>still_fix hfx hlt) (fun j v hj=>?_),cs',T,fr,hheap,by rw [he];simp⟩
  simp only [World.cell?,hheap,Nat.zero_add,he]
  simpa using hj
 ·cases hvar
end Go.Proofs.YtfnhdjigeedieaaGreatDoor
namespace Go.Proofs.YtfnhdjigeedieaaGreatDoor
open Go Go.ChangeShapes Go.WideShapes Go.ChangeAt Go.RowKit Go.A Go.Lib Go.Shelf
def vPs:List (Nat×List AV) := [(1,firstTab.map (AV.int .u8)),(2,accTab.map (AV.int .u8)),(5,Lib.pow10Tab.map (AV.int .u64))]
def vSt:ASt:=stOf vPs
end Go.Proofs.YtfnhdjigeedieaaGreatDoor
namespace Go
variable {H:Type} {enc:TypeId×Value->H}
theorem A.returnsInHanded_and_shaped {a:Assume} {C:Checked} {os:Os} {f:FuncId} {fn:Func} {s:ChangeSpec} {conds:List PathCond} {apart fresh handsOn again:Bool} {X:World->Array Value->Prop}
  (hX:∀ (w w':World) (args:Array Value),w.heap=w'.heap->X w args->X w' args)
  (own:ownKnob C.prog.godebug=none) (started:os.Started) (noInit:C.prog.inits.idxOf? f=none) (hfn:C.prog.funcs[f]? = some fn)
  (witness:∃ (w:World) (tape:Tape) (i:Input),w.os=os/\(w.forCall tape i).Shaped C.prog/\i.vars = []/\Input.okWide C.prog (w.forCall tape i) .any w.heap.size f i ∧
   ((s.pre enc C.prog fn conds apart (w.forCall tape i).memory i.args/\X (w.forCall tape i).memory i.args)/\sizedMet enc C.prog fn (OpenSpec.ofChange s) apart (w.forCall tape i).memory i.args)/\a.holds C.prog (lone (Frame.enter C.prog f i.args .normal) [] (w.forCall tape i)))
  (contract:∀ (W:World) (base:Nat) (args:Array Value) (ds gs:List (DataW H)) (before:List MemPlace),
   (∀ (j:Nat) t v,fn.params[j]? = some t->args[j]? = some v->Value.okWide C.prog W .any base t v) →
   DataW.Whole enc C.prog fn.params.toList s.vars apart W args.toList ds gs before →
   W.ShapedOpen C.prog->X W args →
   Calls C.prog f args W fun e W'=>∃ v,e = .returned v/\s.post enc C.prog fn apart fresh handsOn again W args v W') :
  ReturnsInHanded a C os f .any (fun w args=>(s.pre enc C.prog fn conds apart w args/\X w args)/\sizedMet enc C.prog fn (OpenSpec.ofChange s) apart w args) (s.post enc C.prog fn apart fresh handsOn again):=by
 refine returnsInHanded_of_calls own started noInit witness ?_
 intro w tape i _ hsh _ hok hpre hholds
 obtain ⟨_,_,_,fn',hfn',_,_,_,_,hval⟩:=hok
 have e:fn'=fn:=Option.some.inj (hfn'.symm.trans hfn)
 subst e
 obtain ⟨⟨⟨ds,gs,before,hw,hc⟩,hx⟩,hz⟩:=hpre
 have hw':=DataW.Whole.of_heap (w':=w.forCall tape i) (by rfl) hw
 refine (contract (w.forCall tape i) w.heap.size i.args ds gs before hval hw' hsh (hX _ _ _ (by rfl) hx)).mono fun e W' ⟨v,he,hp⟩=>?_
 subst he
 exact ChangeSpec.post_blind hp
end Go
namespace Go.Proofs.YtfnhdjigeedieaaGreatDoor
open Go Go.ChangeShapes Go.WideShapes Go.ChangeAt Go.RowKit Go.A Go.Lib Go.Shelf
def wSt (m:Int):ASt:=fun b=>if b=4 then some (.fix ([m].map (AV.int .i64))) else vSt b
theorem wSt_fix {m:Int} {b:Nat} {r:Role} (h:wSt m b=some r):∃ l,r = .fix l:=by
 unfold wSt at h
 split at h
 ·injection h with h;exact ⟨_,h.symm⟩
 ·exact stOf_fix h
end Go.Proofs.YtfnhdjigeedieaaGreatDoor
namespace Go.Proofs.YtfnhdjigeedieaaGreatDoor
open Go Go.ChangeShapes Go.WideShapes Go.ChangeAt Go.RowKit Go.A Go.Lib Go.Shelf
theorem strs_trod {H:Type} {enc:TypeId×Value->H} {P:Program} {w:World} {base:Nat} {spare:Nat->Bool} {held:Bool} {fuel:Nat} {t e:TypeId} {cs:List Value} {l:List (List UInt8)} {m:List MemPlace}
  (ht:P.underlying t=some (.slice e)) (he:P.underlying e=some .string) (hc:P.cellsOf e=1) (hl:0<l.length)
  (hd:DataW.trod enc P w base spare held fuel t cs=some (.slice (l.map fun s => .lit (.string s)) [],m)) :
  ∃ R o cap,cs = [.slice (some ⟨R,o,none⟩) l.length cap]/\l.length<=cap/\∀ j s,l[j]? = some s->w.cell? ⟨R,o+j,none⟩=some (.string ⟨⟨s⟩⟩):=by
 rcases DataW.trod_slice ht hd with ⟨_,hx⟩|⟨a,len,cap,el,rs,k,rfl,hcs,hx,_,hlc,_,hel,helem,hsp,_⟩
 ·cases hx
 have e0:=congrArg Prod.fst hx
 simp only [DataW.slice.injEq] at e0
 obtain ⟨eE,eR⟩:=e0
 have hlen:len=l.length:=by
  have:=congrArg List.length eE
  simp at this
  omega
 have hcell:∀ i z,l[i]? = some z->w.cell? (a.add i)=some (.string ⟨⟨z⟩⟩):=by
  intro i z hiz
  have hi:i<l.length:=(List.getElem?_eq_some_iff.1 hiz).1
  have h1:=helem i (by omega)
  rw [hc] at h1
  obtain ⟨b, hb⟩ : ∃ b, el[i]? = some b := ⟨el[i]'(by omega), List.getElem?_eq_getElem (by omega)⟩
  rw [hb] at h1
  obtain ⟨ce,hce,hte⟩:=Option.bind_eq_some_iff.1 h1
  obtain ⟨z',hz,hbz,_⟩:=DataW.trod_string he hte
  have hb1:b.1 = .lit (.string z):=by
   have:=congrArg (·[i]?) eE
   simp only [List.getElem?_map,hiz,hb,Option.map_some,Option.some.injEq] at this
   exact this.symm
  rw [hbz] at hb1
  simp only [DataW.lit.injEq,Lit.string.injEq] at hb1
  obtain ⟨_,_,hcc⟩:=World.cells?_some hce
  have:=hcc 0 (by omega)
  rw [hz] at this
  simp only [Nat.mul_one] at this
  have e1:(a.add i).add 0=a.add i:=by simp [Addr.add]
  rw [e1] at this
  rw [this,← hb1]
  rfl
 obtain ⟨z0,hz0⟩:∃ z,l[0]? = some z:=⟨l[0],List.getElem?_eq_getElem hl⟩
 obtain ⟨R,o,sR⟩:=a
 obtain rfl:sR=none:=by
  have h00:=hcell 0 z0 hz0
  have:(Addr.add ⟨R,o,sR⟩ 0)=⟨R,o,sR⟩:=by simp [Addr.add]
  rw [this] at h00
  exact Go.Proofs.cell_spot h00
 exact ⟨R,o,cap,by rw [hcs,hlen],by omega,fun j s hj=>by have:=hcell j s hj;rwa [Addr.add_lit] at this⟩
theorem block_lt {w:World} {R o:Nat} {s:Option Nat} {v:Value} (h:w.cell? ⟨R,o,none⟩=some v):R<w.heap.size:=by
 refine Nat.lt_of_not_le fun hge=>?_
 simp [World.cell?,Array.getElem?_eq_none hge] at h
theorem strs_row {σ:ASt} {w:World} {b:Nat} (hst:∀ o,Still σ w b o):∀ (zs:List (List UInt8)) (o:Nat),(∀ j z,zs[j]? = some z->w.cell? ⟨b,o+j,none⟩=some (.string ⟨⟨z⟩⟩))->Row σ w b o 1 (zs.map AV.str)
 | [],o,_ => .nil _ _ _
 | z::zs,o,h => .cons rfl (.cons (hst o) (h 0 z rfl) (.str z) (.nil _ _)) (strs_row hst zs (o+1) fun j z' hj=>by
   have:=h (j+1) z' (by simpa using hj)
   rwa [show o+(j+1)=o+1+j by omega] at this)
theorem strss_row {σ:ASt} {w:World} {b:Nat} (hst:∀ o,Still σ w b o):∀ (zs:List (List (List UInt8))) (o:Nat),
  (∀ j z,zs[j]? = some z->∃ v,w.cell? ⟨b,o+j,none⟩=some v/\Rep σ w (.sl .shr (z.map AV.str)) v)->Row σ w b o 1 (zs.map fun l=>AV.sl .shr (l.map AV.str))
 | [],o,_ => .nil _ _ _
 | z::zs,o,h=>by
   obtain ⟨v,hv,hr⟩:=h 0 z rfl
   exact .cons rfl (.cons (hst o) hv hr (.nil _ _)) (strss_row hst zs (o+1) fun j z' hj=>by
    have:=h (j+1) z' (by simpa using hj)
    rwa [show o+(j+1)=o+1+j by omega] at this)
theorem levels_role {σ : ASt} {W : World} (hfx : ∀ b r, σ b = some r → ∃ l, r = .fix l) (h : VarReads Tryz.prog W "tabular/parse.levels" (.slice (levelsL.map fun l => .slice (l.map fun s => .lit (.string s)) []) [])) :
  RoleOk σ W 0 (.fix [lvAV]):=by
 obtain ⟨g',t',cs,fuel,p,hg,hty,hvar,hd⟩:=h
 obtain rfl := Option.some.inj ((show Tryz.prog.globalNamed "tabular/parse.levels" = some 0 by kernel_rfl).symm.trans hg)
 obtain rfl:=Option.some.inj ((show (Tryz.prog.globals[0]?).map (·.type)=some 186 by kernel_rfl).symm.trans hty)
 have ht:Tryz.prog.underlying 186=some (.slice 72):=by kernel_rfl
 have ht2:Tryz.prog.underlying 72=some (.slice 9):=by kernel_rfl
 have he:Tryz.prog.underlying 9=some .string:=by kernel_rfl
 have hc:Tryz.prog.cellsOf 72=1:=by kernel_rfl
 have hc2:Tryz.prog.cellsOf 9=1:=by kernel_rfl
 have hpos:∀ (j:Nat) (z:List (List UInt8)),levelsL[j]? = some z->0<z.length:=by
  intro j z hj
  match j,hj with
  | 0,hj|1,hj|2,hj|3,hj|4,hj=>injection hj with hj;subst hj;decide
 rcases DataW.trod_slice ht hd with ⟨_,hx⟩|⟨a,len,cap,el,rs,k,rfl,hcs,hx,_,hlc,_,hel,helem,hsp,_⟩
 ·cases hx
 have e0:=congrArg Prod.fst hx
 simp only [DataW.slice.injEq] at e0
 obtain ⟨eE,eR⟩:=e0
 have hlen:len=levelsL.length:=by
  have:=congrArg List.length eE
  simp at this
  omega
 have hcell:∀ i z,levelsL[i]? = some z->∃ v,W.cell? (a.add i)=some v/\Rep σ W (.sl .shr (z.map AV.str)) v:=by
  intro i z hiz
  have hi:i<levelsL.length:=(List.getElem?_eq_some_iff.1 hiz).1
  have h1:=helem i (by omega)
  rw [hc] at h1
  obtain ⟨b, hb⟩ : ∃ b, el[i]? = some b := ⟨el[i]'(by omega), List.getElem?_eq_getElem (by omega)⟩
  rw [hb] at h1
  obtain ⟨ce,hce,hte⟩:=Option.bind_eq_some_iff.1 h1
  have hb1:b.1 = .slice (z.map fun s => .lit (.string s)) []:=by
   have:=congrArg (·[i]?) eE
   simp only [List.getElem?_map,hiz,hb,Option.map_some,Option.some.injEq] at this
   exact this.symm
  obtain ⟨b1,b2⟩:=b
  dsimp only at hb1
  subst hb1
  obtain ⟨R,o,cap',rfl,hle,hcells⟩:=strs_trod ht2 he hc2 (hpos i z hiz) hte
  obtain ⟨_,_,hcc⟩:=World.cells?_some hce
  have:=hcc 0 (by omega)
  simp only [Nat.mul_one] at this
  have e1:(a.add i).add 0=a.add i:=by simp [Addr.add]
  rw [e1] at this
  obtain ⟨z0, hz0⟩ : ∃ z0, z[0]? = some z0 := ⟨z[0]'(hpos i z hiz), List.getElem?_eq_getElem (hpos i z hiz)⟩
  have hR:=block_lt (s:=none) (hcells 0 z0 hz0)
  exact ⟨_,this,.sl (sz:=1) (strs_row (fun o=>still_fix hfx hR) z o hcells) (by simp) hle trivial hR⟩
 obtain ⟨R,o,sR⟩:=a
 obtain ⟨v0,h00,_⟩:=hcell 0 [[61],[60,62],[60],[60,61],[62],[62,61]] rfl
 obtain rfl:sR=none:=by
  have:(Addr.add ⟨R,o,sR⟩ 0)=⟨R,o,sR⟩:=by simp [Addr.add]
  rw [this] at h00
  exact Go.Proofs.cell_spot h00
 have hR:R<W.heap.size:=by
  have:(Addr.add ⟨R,o,none⟩ 0)=⟨R,o,none⟩:=by simp [Addr.add]
  rw [this] at h00
  exact block_lt (s:=none) h00
 have hrow:=strss_row (fun o=>still_fix hfx hR) levelsL o fun j z hj=>by
  obtain ⟨v,hv,hr⟩:=hcell j z hj
  rw [Addr.add_lit] at hv
  exact ⟨v,hv,hr⟩
 unfold World.var? at hvar
 rw [hg,Option.bind_some] at hvar
 split at hvar
 ·rename_i cs' T fr hheap
  injection hvar with hvar
  subst hvar
  have hcs2:cs' = #[.slice (some ⟨R,o,none⟩) levelsL.length cap]:=by
   rw [<-hlen]
   exact Array.ext' (by simpa using hcs)
  subst hcs2
  have hlt:0<W.heap.size:=(Array.getElem?_eq_some_iff.1 hheap).1
  have hce:W.cell? ⟨0,0,none⟩=some (.slice (some ⟨R,o,none⟩) levelsL.length cap):=by simp [World.cell?,hheap]
  have hrep:Rep σ W lvAV (.slice (some ⟨R,o,none⟩) levelsL.length cap) := .sl (sz:=1) hrow (by simp) (by omega) trivial hR
  exact ⟨.cons (still_fix hfx hlt) hce hrep (.nil _ _),_,T,fr,hheap,rfl⟩
 ·cases hvar
def xSt (m:Int):ASt:=fun b=>if b=0 then some (.fix [lvAV]) else wSt m b
theorem xSt_fix {m:Int} {b:Nat} {r:Role} (h:xSt m b=some r):∃ l,r = .fix l:=by
 unfold xSt at h
 split at h
 ·injection h with h;exact ⟨_,h.symm⟩
 ·exact wSt_fix h
end Go.Proofs.YtfnhdjigeedieaaGreatDoor
namespace Go.Proofs.YtfnhdjigeedieaaGreatDoor
open Go Go.ChangeShapes Go.WideShapes Go.ChangeAt Go.RowKit Go.A Go.Lib Go.Shelf
def ckZ:List Int:=ckT.map fun (n:Nat)=>(n:Int)
theorem ckZ_av:ckZ.map (AV.int .u32)=ckAV:=by unfold ckZ ckAV;rw [List.map_map];rfl
theorem ck_eq:(Rows.laid_tabular_check_table:DataW Unit)=Lib.tabData .u32 ckZ:=by kernel_rfl
theorem ck_role {σ : ASt} {W : World} (hfx : ∀ b r, σ b = some r → ∃ l, r = .fix l) (h3 : VarReads Tryz.prog W "tabular/check.table" (Lib.tabData .u32 ckZ)) :
  RoleOk σ W 3 (.fix ckAV):=by
 rw [<-ckZ_av]
 obtain ⟨g',t',cs,fuel,p,hg',ht',hvar,hd⟩:=h3
 obtain rfl := Option.some.inj ((show Tryz.prog.globalNamed "tabular/check.table" = some 3 by kernel_rfl).symm.trans hg')
 obtain rfl:=Option.some.inj ((show (Tryz.prog.globals[3]?).map (·.type)=some 253 by kernel_rfl).symm.trans ht')
 have hcs:=cells_of_tab (n:=16) (e:=174) (k := .u32) (by kernel_rfl) (by kernel_rfl) (by kernel_rfl) (by kernel_rfl) hd
 unfold World.var? at hvar
 rw [show Tryz.prog.globalNamed "tabular/check.table" = some 3 by kernel_rfl, Option.bind_some] at hvar
 split at hvar
 ·rename_i cs' T fr hheap
  injection hvar with hvar
  have hlt:3<W.heap.size:=(Array.getElem?_eq_some_iff.1 hheap).1
  have he:cs'=(ckZ.map fun z=>Value.int .u32 z).toArray:=by rw [hvar];exact Array.ext' (by simpa using hcs)
  refine ⟨At.mk' (ints_reps _) (fun j _=>still_fix hfx hlt) (fun j v hj=>?_),cs',T,fr,hheap,by rw [he];simp⟩
  simp only [World.cell?,hheap,Nat.zero_add,he]
  simpa using hj
 ·cases hvar
end Go.Proofs.YtfnhdjigeedieaaGreatDoor
namespace Go.Proofs.YtfnhdjigeedieaaGreatDoor
open Go Go.ChangeShapes Go.WideShapes Go.ChangeAt Go.RowKit Go.A Go.Lib Go.Shelf
def laidL : List (String × DataW Unit) := [("math/bits.deBruijn32tab", Rows.laid_math_bits_deBruijn32tab), ("math/bits.deBruijn64tab", Rows.laid_math_bits_deBruijn64tab), ("internal/strconv.uint64pow10", Rows.laid_internal_strconv_uint64pow10), ("tabular/check.table", Rows.laid_tabular_check_table), ("unicode/utf8.acceptRanges", Rows.laid_unicode_utf8_acceptRanges), ("tabular/parse.levels", Rows.laid_tabular_parse_levels), ("unicode/utf8.first", Rows.laid_unicode_utf8_first)]
def lSt (m:Int):ASt:=fun b=>if b=3 then some (.fix ckAV) else xSt m b
theorem lSt_u8 (m:Int):U8 (lSt m):=⟨by simp [lSt,xSt,wSt,vSt,vPs,stOf],by simp [lSt,xSt,wSt,vSt,vPs,stOf]⟩
theorem lSt_tab (m:Int):Tab (lSt m):=by simp [Tab,lSt,xSt,wSt,vSt,vPs,stOf]
theorem lSt_max (m:Int):MaxL (lSt m):=⟨m,by simp [lSt,xSt,wSt]⟩
theorem lSt_lv (m:Int):LV (lSt m):=by simp [LV,lSt,xSt]
theorem lSt_ck (m:Int):CkT (lSt m):=by simp [CkT,lSt]
theorem lSt_fix {m:Int} {b:Nat} {r:Role} (h:lSt m b=some r):∃ l,r = .fix l:=by
 unfold lSt at h
 split at h
 ·injection h with h;exact ⟨_,h.symm⟩
 ·exact xSt_fix h
theorem l_sim {W:World} (hsh:W.ShapedOpen Tryz.prog) (h:laidMetH Tryz.prog laidL W):∃ m,Sim (lSt m) W:=by
 rw [MakeChecks.laidMetH_plain _ _ _ (by kernel_rfl)] at h
 have hp : VarReads Tryz.prog W "internal/strconv.uint64pow10" (Lib.tabData .u64 Lib.pow10Tab) := Lib.laidMet.reads h (.tail _ (.tail _ (.head _)))
 have hc : VarReads Tryz.prog W "tabular/check.table" (Lib.tabData .u32 ckZ) := ck_eq ▸ Lib.laidMet.reads h (.tail _ (.tail _ (.tail _ (.head _))))
 have h4 : VarReads Tryz.prog W "unicode/utf8.acceptRanges" acceptData := acc_eq ▸ Lib.laidMet.reads h (.tail _ (.tail _ (.tail _ (.tail _ (.head _)))))
 have h5 : VarReads Tryz.prog W "tabular/parse.levels" (.slice (levelsL.map fun l => .slice (l.map fun s => .lit (.string s)) []) []) := Lib.laidMet.reads h (.tail _ (.tail _ (.tail _ (.tail _ (.tail _ (.head _))))))
 have h3 : VarReads Tryz.prog W "unicode/utf8.first" firstData := first_eq ▸ Lib.laidMet.reads h (.tail _ (.tail _ (.tail _ (.tail _ (.tail _ (.tail _ (.head _)))))))
 obtain ⟨m,hm⟩:=Go.Proofs.cell_of_shapedOpen_int (g:=4) (zero := #[.int .i64 0]) (t:=3) hsh (of_decide_eq_true (by kernel_rfl)) (by kernel_rfl) rfl (by kernel_rfl) (by kernel_rfl) Tryz.underlying3
 have hm:W.cell? ⟨4,0,none⟩=some (.int .i64 m):=hm
 obtain ⟨cs,hh,hsz,_⟩:=hsh.1 4 #[.int .i64 0] 3 (of_decide_eq_true (by kernel_rfl)) (by kernel_rfl)
 obtain ⟨r1,r2⟩:=u8_roles (σ:=lSt m) h3 h4
 refine ⟨m,fun b r hb=>?_⟩
 have hb0:=hb
 unfold lSt at hb
 split at hb
 ·rename_i hbb
  subst hbb
  injection hb with hb
  subst hb
  exact ck_role (fun _ _=>lSt_fix) hc
 unfold xSt at hb
 split at hb
 ·rename_i hbb
  subst hbb
  injection hb with hb
  subst hb
  exact levels_role (fun _ _=>lSt_fix) h5
 unfold wSt at hb
 split at hb
 ·rename_i hbb
  subst hbb
  injection hb with hb
  subst hb
  have hlt:4<W.heap.size:=(Array.getElem?_eq_some_iff.1 hh).1
  refine ⟨At.mk' (ints_reps _) (fun j _=>⟨hlt,.inr (.inl ⟨_,hb0⟩)⟩) (fun j v hj=>?_),cs,_,_,hh,hsz⟩
  match j,hj with
  | 0,hj=>injection hj with hj;subst hj;exact hm
 ·obtain ⟨l,hl,rfl⟩:=stOf_mem hb
  simp only [vPs,List.mem_cons,List.not_mem_nil,or_false,Prod.mk.injEq] at hl
  rcases hl with ⟨rfl,rfl⟩|⟨rfl,rfl⟩|⟨rfl,rfl⟩
  ·exact r1 (lSt_u8 m).1
  ·exact r2 (lSt_u8 m).2
  ·exact pow_role (fun _ _=>lSt_fix) hp
theorem calls_l {m:Int} {f:FuncId} {args:List AV} {vs:List Value} {w:World} (h:ACalls Tryz.prog f args (lSt m) fun r σ'=>r = .bool true/\σ'=lSt m) (hs:Sim (lSt m) w) (hr:Reps (lSt m) w args vs) :
  Calls Tryz.prog f ⟨vs⟩ w fun e w'=>e = .returned (.bool true)/\Ext w w':=
 (h w vs hs hr).mono fun e w' ⟨u,r,σ',he,⟨hrt,hst⟩,hle,_,hrep⟩=>by
  subst hrt hst
  cases hrep
  refine ⟨he,Ext.of_below ⟨hle.os,hle.tape,hle.output,hle.size,fun k hk=>?_⟩⟩
  cases hn:lSt m k with
  | none=>exact (hle.keep k hk hn).2
  | some r=>
    obtain ⟨l,rfl⟩:=lSt_fix hn
    exact (hle.fix k _ hk hn).2
end Go.Proofs.YtfnhdjigeedieaaGreatDoor
end
