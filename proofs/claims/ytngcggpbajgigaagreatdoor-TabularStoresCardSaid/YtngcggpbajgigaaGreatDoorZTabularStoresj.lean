/- Part 10 of what TabularStores leans on: Sld CodeSle Sle CodeSma Sma CodeSmb Smb CodeSmc Smc CodeSmd Smd CodeSme Sme. -/
import Derived.Test.YtngcggpbajgigaaGreatDoorProg
import Derived.KernelRfl
import Derived.Test.YtngcggpbajgigaaGreatDoorZTabularStoresi
set_option linter.defProp false
set_option linter.unusedSimpArgs false
set_option linter.unusedVariables false
set_option maxRecDepth 100000
section
attribute [local go_sem] reduceCtorEq Nat.reduceEqDiff Nat.reduceAdd Nat.reduceSub Nat.reduceMul Nat.reduceLeDiff Int.reduceLT Int.reduceLE Int.reduceEq Int.reduceNeg Int.reduceAdd Int.reduceSub Int.reduceMul true_imp_iff forall_const Nat.mul_one Int.reduceToNat Nat.reducePow Int.reducePow Bool.true_and Bool.false_and Bool.and_false
attribute [local go_sem ↓] reduceIte
namespace Go.A
open Go.Proofs
theorem splice_bytes (b s:List UInt8) (o:Nat):splice (bytesAV b) o s.length (bytesAV s)=bytesAV (spl b o s):=by
 unfold splice spl
 rw [bytes_take,bytes_drop,kbytes_app,kbytes_app]
section
variable {σ:ASt} {B c i:Nat} {b:List UInt8} {R:Rcs} {s:List UInt8}
theorem zflat (n:Nat):(List.replicate n [AV.int .u8 0]).flatten=bytesAV (List.replicate n 0):=by
 rw [List.flatten_replicate_singleton];exact zero_bytes n
set_option maxHeartbeats 1000000 in
theorem slpack_ok (hB:σ B=some (.obj (bytesAV b))) (h:SW b R) (hc:504<=c) (hu:4+4*R.length+usedR R<=504) (h124:R.length<=124) :
  ACalls Tryz.prog 126 [.msl B 0 504 c] σ fun r σ'=>r = .tuple []/\∃ b',SW b' R/\slLo b'=504-usedR R/\σ'=σ.set B (some (.obj (bytesAV b'))):=by
 have hl:=h.hl
 have hf:=h.few
 have hn:=sllen_ok (c:=c) hB hl
 rw [h.n] at hn
 have htk:(bytesAV b).take 504=bytesAV b:=List.take_of_length_le (by rw [kbytes_len];omega)
 have hlb:504<=b.length:=by omega
 have hset:σ.set B (some (.obj (bytesAV b)))=σ:=by
  funext x
  by_cases hx:x=B
  ·rw [hx,ASt.set_same,hB]
  ·rw [ASt.set_ne hx]
 have u0:usedR (R.take 0)=0:=rfl
 refine a126 (by simp) ?_
 simp (disch:=first|assumption|omega|(simp only [List.length_append,List.length_cons,List.length_nil];omega)) only [go_sem,hB,hlb,htk,List.drop_zero,Nat.zero_add]
 refine hn.mono ?_
 rintro v σ1 ⟨rfl,rfl⟩
 simp (disch:=first|assumption|omega|(simp only [List.length_append,List.length_cons,List.length_nil];omega)) only [go_sem]
 obtain ⟨J,hJ⟩:∃ J:Nat->AFr->ASt->Prop,J=fun i a1 s2=>i<=R.length/\(a1 0 = .msl B 0 504 c/\a1 2 = .str b/\a1 3 = .int .i64 ((504-usedR (R.take i):Nat):Int)/\a1 10 = .int .i64 R.length/\a1 11 = .int .i64 i) ∧
  ∃ bi,PackI b R i bi/\s2=σ1.set B (some (.obj (bytesAV bi))):=⟨_,rfl⟩
 refine wp_loop_on J (fun i=>R.length+1-i) 0 ?_ ?_
 ·rw [hJ]
  refine ⟨Nat.zero_le _,?_,b,PackI.start h,hset.symm⟩
  rw [u0]
  simp (disch:=first|assumption|omega|(simp only [List.length_append,List.length_cons,List.length_nil];omega)) only [go_sem]
  try rfl
 intro i a1 s2 hj
 rw [hJ] at hj
 obtain ⟨hi,hf1,bi,hP,rfl⟩:=hj
 have hbl:=hP.hl
 have hle:=usedR_take R i
 obtain ⟨e0,he0⟩:∃ e0,e0=504-usedR (R.take i):=⟨_,rfl⟩
 rw [<-he0] at hf1
 by_cases hlt':i<R.length
 ·have hlt:(i:Int)<(R.length:Int):=by omega
  obtain ⟨x,hx⟩:∃ x,R[i]? = some x:=⟨_,List.getElem?_eq_getElem hlt'⟩
  have hsl:=slslot_ok (c:=c) (σ:=σ1.set B (some (.obj (bytesAV bi)))) (i:=i) (ASt.set_same _ _ _) hbl (by omega)
  obtain ⟨r1,r2⟩:=hP.rest i (Nat.le_refl _) hlt'
  rw [r1,r2] at hsl
  cases x with
  | none=>
    rw [(h.dead i hx).1] at hsl
    have h0':((0:Nat):Int)=0:=rfl
    have hut:usedR (R.take (i+1))=usedR (R.take i):=by rw [usedR_at hx];rfl
    simp (disch:=first|assumption|omega|(simp only [List.length_append,List.length_cons,List.length_nil];omega)) only [go_sem,hf1,hlt]
    refine hsl.mono ?_
    rintro v σ2 ⟨rfl,rfl⟩
    simp (disch:=first|assumption|omega|(simp only [List.length_append,List.length_cons,List.length_nil];omega)) only [go_sem,hf1,h0']
    refine ⟨i+1,by omega,?_⟩
    rw [hJ]
    refine ⟨hlt',?_,bi,hP.skip h hx,rfl⟩
    rw [hut,← he0]
    simp (disch:=first|assumption|omega|(simp only [List.length_append,List.length_cons,List.length_nil];omega)) only [go_sem,hf1]
    try exact ⟨rfl,rfl⟩
  | some t=>
    obtain ⟨k1,k2,k3,k4,k5⟩:=h.live i t hx
    have hpos:=h.pos hx
    have hut:usedR (R.take (i+1))=usedR (R.take i)+t.length:=usedR_at hx
    have hle2:=usedR_take R (i+1)
    rw [k3] at hsl
    have hst:=hP.step h hu hx
    obtain ⟨e,he⟩:∃ e,e=504-usedR (R.take (i+1)):=⟨_,rfl⟩
    rw [<-he] at hst
    have htl:0<t.length:=List.length_pos_iff.2 k4
    obtain ⟨p,hp⟩:∃ p,p=slAt b i:=⟨_,rfl⟩
    rw [<-hp] at hsl k1 k2 k5 hpos
    have p0:¬ (p:Int)=0:=by omega
    have e1:(e0:Int)-(t.length:Int)=(e:Int):=by omega
    obtain ⟨q,hq⟩:∃ q,q=p+t.length:=⟨_,rfl⟩
    have e2:(p:Int)+(t.length:Int)=(q:Int):=by omega
    have s1:slV (false,1) (.msl B 0 504 c) (e:Int) ((504:Nat):Int)=some (.msl B (0+e) (504-e) (c-e)):=slV_nat (by omega) (by omega) (by omega)
    have s1:slV (false,1) (.msl B 0 504 c) (e:Int) 504=some (.msl B (0+e) (504-e) (c-e)):=s1
    rw [Nat.zero_add] at s1
    have s2:(b.take q).drop p=t:=by
     rw [hq,List.drop_take,Nat.add_sub_cancel_left]
     exact k5
    have i1:(q:Int)<=(b.length:Int):=by omega
    have i2:(p:Int)<=(q:Int):=by omega
    have hlay:=sllay_ok (c:=c) (σ:=σ1.set B (some (.obj (bytesAV (spl bi e t))))) (B:=B) (b:=spl bi e t) (i:=i) (o:=e) (n:=t.length) (ASt.set_same _ _ _) (by rw [spl_len (by omega),hbl]) (by omega) (by omega) (by omega)
    rw [ASt.set_set] at hlay
    have htk2:t.take (504-e)=t:=List.take_of_length_le (by omega)
    simp (disch:=first|assumption|omega|(simp only [List.length_append,List.length_cons,List.length_nil];omega)) only [go_sem,hf1,hlt]
    refine hsl.mono ?_
    rintro v σ2 ⟨rfl,rfl⟩
    simp (disch:=first|assumption|omega|(simp only [List.length_append,List.length_cons,List.length_nil];omega)) only [go_sem,hf1,p0,e1,e2,s1,s2,i1,i2,Int.toNat_natCast]
    refine cpyC_by (ASt.set_same _ _ _) (by rw [kbytes_len];omega) ?_
    rw [htk2,splice_bytes,ASt.set_set]
    simp (disch:=first|assumption|omega|(simp only [List.length_append,List.length_cons,List.length_nil];omega)) only [go_sem,hf1]
    refine hlay.mono ?_
    rintro v σ2 ⟨rfl,rfl⟩
    simp (disch:=first|assumption|omega|(simp only [List.length_append,List.length_cons,List.length_nil];omega)) only [go_sem,hf1]
    refine ⟨i+1,by omega,?_⟩
    rw [hJ]
    refine ⟨hlt',?_,_,hst,rfl⟩
    rw [<-he]
    simp (disch:=first|assumption|omega|(simp only [List.length_append,List.length_cons,List.length_nil];omega)) only [go_sem,hf1]
    try exact ⟨rfl,rfl⟩
 ·have hlt:¬ (i:Int)<(R.length:Int):=by omega
  obtain rfl:i=R.length:=by omega
  rw [List.take_length] at he0 hle
  obtain ⟨g1,g2⟩:=hP.fin hu
  rw [<-he0] at g1 g2
  have hput:=slput_ok (c:=c) (σ:=σ1.set B (some (.obj (bytesAV bi)))) (B:=B) (b:=bi) (o:=2) (v:=e0) (ASt.set_same _ _ _) hbl (by omega) (by omega)
  rw [ASt.set_set] at hput
  have e0l:(spl bi 2 (le16 e0)).length=504:=by rw [spl_len (by rw [le16_len];omega),hbl]
  have hn2:=sllen_ok (c:=c) (σ:=σ1.set B (some (.obj (bytesAV (spl bi 2 (le16 e0)))))) (B:=B) (ASt.set_same _ _ _) e0l
  have hlen2:slLn (spl bi 2 (le16 e0))=R.length:=by rw [slLn,twoP_else (by rw [le16_len];omega) (by omega)];exact hP.n
  rw [hlen2] at hn2
  obtain ⟨m,hm⟩:∃ m,m=4+4*R.length:=⟨_,rfl⟩
  have em:(4:Int)+4*(R.length:Int)=(m:Int):=by omega
  have s1:slV (false,1) (.msl B 0 504 c) (m:Int) (e0:Int)=some (.msl B (0+m) (e0-m) (c-m)):=slV_nat (by omega) (by omega) (by omega)
  rw [Nat.zero_add] at s1
  have e2':((2:Nat):Int)=2:=rfl
  rw [e2'] at hput
  simp (disch:=first|assumption|omega|(simp only [List.length_append,List.length_cons,List.length_nil];omega)) only [go_sem,hf1,hlt]
  refine hput.mono ?_
  rintro v σ2 ⟨rfl,rfl⟩
  simp (disch:=first|assumption|omega|(simp only [List.length_append,List.length_cons,List.length_nil];omega)) only [go_sem,hf1]
  refine hn2.mono ?_
  rintro v σ2 ⟨rfl,rfl⟩
  simp (disch:=first|assumption|omega|(simp only [List.length_append,List.length_cons,List.length_nil];omega)) only [go_sem,hf1,em,s1]
  refine clrC_by (ASt.set_same _ _ _) rfl (by rw [kbytes_len];simp only [List.length_singleton];omega) ?_
  rw [zflat,ASt.set_set]
  have hzl:(List.replicate (e0-m) (0:UInt8)).length=e0-m:=List.length_replicate
  have hspl:=splice_bytes (spl bi 2 (le16 e0)) (List.replicate (e0-m) 0) m
  rw [hzl] at hspl
  have h1l : [AV.int .u8 0].length=1:=rfl
  rw [h1l,Nat.mul_one,hspl]
  simp (disch:=first|assumption|omega|(simp only [List.length_append,List.length_cons,List.length_nil];omega)) only [go_sem]
  refine retC_by (.refl _) (.refl _) ⟨rfl,packEnd bi R.length e0,g1,?_,?_⟩
  ·rw [g2,he0]
  ·unfold packEnd;rw [hm]
theorem slstore_ok (hB:σ B=some (.obj (bytesAV b))) (h:SW b R) (hc:504<=c) (hR:R[i]? = some none) (hs:s ≠ []) (hu:4+4*R.length+usedR R+s.length<=504) :
  ACalls Tryz.prog 127 [.msl B 0 504 c,.int .i64 i,.str s] σ fun r σ'=>r = .tuple []/\∃ b',SW b' (R.set i (some s))/\σ'=σ.set B (some (.obj (bytesAV b'))):=by
 have hf:=h.few
 have hiR:=(List.getElem?_eq_some_iff.1 hR).1
 have key:∀ (τ:ASt) (b1:List UInt8),τ B=some (.obj (bytesAV b1))->SW b1 R->4+4*R.length+s.length<=slLo b1 →
   ACalls Tryz.prog 125 [.msl B 0 504 c] τ (fun r σ'=>r = .int .i64 (slLo b1)/\σ'=τ)/\(slLo b1:Int)-(s.length:Int)=((slLo b1-s.length:Nat):Int) ∧
   slV (false,1) (.msl B 0 504 c) ((slLo b1-s.length:Nat):Int) 504=some (.msl B (slLo b1-s.length) (504-(slLo b1-s.length)) (c-(slLo b1-s.length)))/\s.take (504-(slLo b1-s.length))=s/\slLo b1-s.length+(504-(slLo b1-s.length))<=(bytesAV b1).length ∧
   ACalls Tryz.prog 106 [.msl B 0 504 c,.int .i64 i,.int .i64 ((slLo b1-s.length:Nat):Int),.int .i64 s.length] (τ.set B (some (.obj (bytesAV (spl b1 (slLo b1-s.length) s))))) (fun r σ'=>r = .tuple []/\σ'=τ.set B (some (.obj (bytesAV (layS (spl b1 (slLo b1-s.length) s) i (slLo b1-s.length) s.length))))) ∧
   ACalls Tryz.prog 109 [.msl B 0 504 c,.int .i64 2,.int .i64 ((slLo b1-s.length:Nat):Int)] (τ.set B (some (.obj (bytesAV (layS (spl b1 (slLo b1-s.length) s) i (slLo b1-s.length) s.length))))) (fun r σ'=>r = .tuple []/\σ'=τ.set B (some (.obj (bytesAV (storeB b1 i s)))))/\SW (storeB b1 i s) (R.set i (some s)):=by
  intro τ b1 hb1 h1 hroom
  have hl:=h1.hl
  have hhi:=h1.hi
  have hsl:0<s.length:=List.length_pos_iff.2 hs
  have e0:(spl b1 (slLo b1-s.length) s).length=504:=by rw [spl_len (by omega),hl]
  have e1:(layS (spl b1 (slLo b1-s.length) s) i (slLo b1-s.length) s.length).length=504:=layS_len e0 (by omega)
  have q1:=sllay_ok (c:=c) (σ:=τ.set B (some (.obj (bytesAV (spl b1 (slLo b1-s.length) s))))) (B:=B) (i:=i) (o:=slLo b1-s.length) (n:=s.length) (ASt.set_same _ _ _) e0 (by omega) (by omega) (by omega)
  have q2:=slput_ok (c:=c) (σ:=τ.set B (some (.obj (bytesAV (layS (spl b1 (slLo b1-s.length) s) i (slLo b1-s.length) s.length))))) (B:=B) (o:=2) (v:=slLo b1-s.length) (ASt.set_same _ _ _) e1 (by omega) (by omega)
  rw [ASt.set_set] at q1 q2
  have q3:slV (false,1) (.msl B 0 504 c) ((slLo b1-s.length:Nat):Int) ((504:Nat):Int)=some (.msl B (0+(slLo b1-s.length)) (504-(slLo b1-s.length)) (c-(slLo b1-s.length))):=slV_nat (by omega) (by omega) (by omega)
  rw [Nat.zero_add] at q3
  exact ⟨sllow_ok hb1 hl,by omega,q3,List.take_of_length_le (by omega),by rw [kbytes_len];omega,q1,q2,(h1.store hR hs hroom).1⟩
 have hl:=h.hl
 have hlow:=sllow_ok (c:=c) hB hl
 have hn:=sllen_ok (c:=c) hB hl
 rw [h.n] at hn
 have hhi:=h.hi
 by_cases hq:slLo b<4+4*R.length+s.length
 ·have hq':(slLo b:Int)-(s.length:Int)<4+4*(R.length:Int):=by omega
  have hsl0:0<s.length:=List.length_pos_iff.2 hs
  have hpk:=slpack_ok (c:=c) hB h hc (by omega) (by omega)
  refine a127 (by simp) ?_
  simp (disch:=first|assumption|omega|(simp only [List.length_append,List.length_cons,List.length_nil];omega)) only [go_sem]
  refine hlow.mono ?_
  rintro v σ1 ⟨rfl,rfl⟩
  simp (disch:=first|assumption|omega|(simp only [List.length_append,List.length_cons,List.length_nil];omega)) only [go_sem]
  refine hn.mono ?_
  rintro v σ1 ⟨rfl,rfl⟩
  simp (disch:=first|assumption|omega|(simp only [List.length_append,List.length_cons,List.length_nil];omega)) only [go_sem,hq']
  refine hpk.mono ?_
  rintro v σ2 ⟨rfl,b1,g1,g2,rfl⟩
  obtain ⟨k1,k2,k3,k4,k5,k6,k7,k8⟩:=key (σ1.set B (some (.obj (bytesAV b1)))) b1 (ASt.set_same _ _ _) g1 (by omega)
  rw [ASt.set_set,ASt.set_set] at k6 k7
  generalize slLo b1-s.length=p at *
  simp (disch:=first|assumption|omega|(simp only [List.length_append,List.length_cons,List.length_nil];omega)) only [go_sem]
  refine k1.mono ?_
  rintro v σ2 ⟨rfl,rfl⟩
  simp (disch:=first|assumption|omega|(simp only [List.length_append,List.length_cons,List.length_nil];omega)) only [go_sem,k2,k3]
  refine cpyC_by (ASt.set_same _ _ _) k5 ?_
  rw [k4,splice_bytes,ASt.set_set]
  simp (disch:=first|assumption|omega|(simp only [List.length_append,List.length_cons,List.length_nil];omega)) only [go_sem]
  refine k6.mono ?_
  rintro v σ2 ⟨rfl,rfl⟩
  simp (disch:=first|assumption|omega|(simp only [List.length_append,List.length_cons,List.length_nil];omega)) only [go_sem]
  refine k7.mono ?_
  rintro v σ2 ⟨rfl,rfl⟩
  simp (disch:=first|assumption|omega|(simp only [List.length_append,List.length_cons,List.length_nil];omega)) only [go_sem]
  exact retC_by (.refl _) (.refl _) ⟨rfl,_,k8,rfl⟩
 ·have hq':¬ (slLo b:Int)-(s.length:Int)<4+4*(R.length:Int):=by omega
  obtain ⟨k1,k2,k3,k4,k5,k6,k7,k8⟩:=key σ b hB h (by omega)
  refine a127 (by simp) ?_
  simp (disch:=first|assumption|omega|(simp only [List.length_append,List.length_cons,List.length_nil];omega)) only [go_sem]
  refine hlow.mono ?_
  rintro v σ1 ⟨rfl,rfl⟩
  simp (disch:=first|assumption|omega|(simp only [List.length_append,List.length_cons,List.length_nil];omega)) only [go_sem]
  refine hn.mono ?_
  rintro v σ1 ⟨rfl,rfl⟩
  simp (disch:=first|assumption|omega|(simp only [List.length_append,List.length_cons,List.length_nil];omega)) only [go_sem,hq']
  generalize slLo b-s.length=p at *
  refine k1.mono ?_
  rintro v σ2 ⟨rfl,rfl⟩
  simp (disch:=first|assumption|omega|(simp only [List.length_append,List.length_cons,List.length_nil];omega)) only [go_sem,k2,k3]
  refine cpyC_by hB k5 ?_
  rw [k4,splice_bytes]
  simp (disch:=first|assumption|omega|(simp only [List.length_append,List.length_cons,List.length_nil];omega)) only [go_sem]
  refine k6.mono ?_
  rintro v σ2 ⟨rfl,rfl⟩
  simp (disch:=first|assumption|omega|(simp only [List.length_append,List.length_cons,List.length_nil];omega)) only [go_sem]
  refine k7.mono ?_
  rintro v σ2 ⟨rfl,rfl⟩
  simp (disch:=first|assumption|omega|(simp only [List.length_append,List.length_cons,List.length_nil];omega)) only [go_sem]
  exact retC_by (.refl _) (.refl _) ⟨rfl,_,k8,rfl⟩
def getR (R:Rcs) (i:Nat):Option (List UInt8):=(R[i]?).join
theorem getR_some:getR R i=some s↔R[i]? = some (some s):=by
 unfold getR
 cases R[i]? with
 | none=>simp
 | some x=>simp
theorem SP.few (h:SP b R):R.length<=124:=by
 have h1:=h.lo
 have h2:=h.hi
 by_cases h0:R.length=0
 ·omega
 ·cases hx:R[R.length-1]? with
  | none=>
    have:=List.getElem?_eq_none_iff.1 hx
    omega
  | some x=>
    cases x with
    | none=>exact absurd hx (h.last _ (by omega))
    | some t=>
      obtain ⟨k1,k2,k3,k4,k5⟩:=h.live _ t hx
      have:0<t.length:=List.length_pos_iff.2 k4
      omega
theorem getR_set {x:Option (List UInt8)} {j:Nat} (hi:i<R.length):getR (R.set i x) j=if j=i then x else getR R j:=by
 unfold getR
 by_cases h:j=i
 ·subst h
  rw [if_pos rfl,List.getElem?_set_self hi]
  rfl
 ·rw [if_neg h,List.getElem?_set_ne (Ne.symm h)]
theorem getR_app {x:Option (List UInt8)} {j:Nat}:getR (R ++ [x]) j=if j=R.length then x else getR R j:=by
 unfold getR
 by_cases h:j=R.length
 ·rw [h,if_pos rfl,List.getElem?_append_right (Nat.le_refl _),Nat.sub_self]
  rfl
 ·rw [if_neg h]
  by_cases h2:j<R.length
  ·rw [List.getElem?_append_left h2]
  ·have h1l : [x].length=1:=rfl
   rw [List.getElem?_append_right (by omega),List.getElem?_eq_none (l := [x]) (by omega),List.getElem?_eq_none (l:=R) (by omega)]
set_option maxHeartbeats 1000000 in
theorem sladd_ok (hB:σ B=some (.obj (bytesAV b))) (h:SP b R) (hc:504<=c) (hs:s ≠ []) (hroom:(s.length:Int)<=roomR R) :
  ACalls Tryz.prog 63 [.msl B 0 504 c,.str s] σ fun r σ'=>∃ i b' R',r = .tuple [.int .i64 ((i:Nat):Int),.bool true]/\i<=124/\getR R i=none/\SP b' R'/\(∀ j,getR R' j=if j=i then some s else getR R j)/\σ'=σ.set B (some (.obj (bytesAV b'))):=by
 have hW:SW b R:=h.toSW
 have hf:=h.few
 have hl:=h.hl
 have hrm:=slroom_ok (c:=c) hB hW
 have he:=slempty_ok (c:=c) hB hW
 have hn:=sllen_ok (c:=c) hB hl
 rw [h.n] at hn
 have hel:=emptyR_le R
 have hsl:0<s.length:=List.length_pos_iff.2 hs
 have hne:¬ s = []:=hs
 have c1:¬ roomR R<(s.length:Int):=by omega
 have hr0:=hroom
 unfold roomR at hr0
 generalize hrr:roomR R=rr at *
 obtain ⟨k,hk⟩:∃ k,k=emptyR R:=⟨_,rfl⟩
 rw [<-hk] at he hel hr0
 by_cases hlen:k=R.length
 ·rw [if_pos hlen] at hr0
  have hlen':(k:Int)=(R.length:Int):=by omega
  have hlow:=sllow_ok (c:=c) hB hl
  have tail:∀ (τ:ASt) (b1:List UInt8),τ B=some (.obj (bytesAV b1))->SW b1 R->4+4*(R.length+1)<=slLo b1 →
    ACalls Tryz.prog 109 [.msl B 0 504 c,.int .i64 0,.int .i64 ((R.length+1:Nat):Int)] τ (fun r σ'=>r = .tuple []/\σ'=τ.set B (some (.obj (bytesAV (spl b1 0 (le16 (R.length+1))))))) ∧
    ACalls Tryz.prog 106 [.msl B 0 504 c,.int .i64 R.length,.int .i64 0,.int .i64 0] (τ.set B (some (.obj (bytesAV (spl b1 0 (le16 (R.length+1))))))) (fun r σ'=>r = .tuple []/\σ'=τ.set B (some (.obj (bytesAV (layS (spl b1 0 (le16 (R.length+1))) R.length 0 0))))) ∧
    ACalls Tryz.prog 127 [.msl B 0 504 c,.int .i64 R.length,.str s] (τ.set B (some (.obj (bytesAV (layS (spl b1 0 (le16 (R.length+1))) R.length 0 0))))) (fun r σ'=>r = .tuple []/\∃ b',SP b' (R ++ [some s])/\σ'=τ.set B (some (.obj (bytesAV b')))):=by
   intro τ b1 hb1 h1 hroom1
   have hl1:=h1.hl
   obtain ⟨g1,g2⟩:=h1.more hroom1
   have e0:(spl b1 0 (le16 (R.length+1))).length=504:=by rw [spl_len (by rw [le16_len];omega),hl1]
   have q1:=slput_ok (c:=c) (σ:=τ) (B:=B) (o:=0) (v:=R.length+1) hb1 hl1 (by omega) (by omega)
   have q2:=sllay_ok (c:=c) (σ:=τ.set B (some (.obj (bytesAV (spl b1 0 (le16 (R.length+1))))))) (B:=B) (i:=R.length) (o:=0) (n:=0) (ASt.set_same _ _ _) e0 (by omega) (by omega) (by omega)
   have hu1:usedR (R ++ [none])=usedR R:=by rw [usedR_app];rfl
   have hll:(R ++ [(none:Option (List UInt8))]).length=R.length+1:=by rw [List.length_append];rfl
   have q3:=slstore_ok (c:=c) (σ:=τ.set B (some (.obj (bytesAV (layS (spl b1 0 (le16 (R.length+1))) R.length 0 0))))) (B:=B) (i:=R.length) (ASt.set_same _ _ _) g1 hc (by rw [List.getElem?_append_right (Nat.le_refl _),Nat.sub_self];rfl) hs (by rw [hu1,hll];omega)
   rw [ASt.set_set] at q2
   refine ⟨q1,q2,q3.mono ?_⟩
   rintro v σ' ⟨g3,b',g4,rfl⟩
   have hset:(R ++ [(none:Option (List UInt8))]).set R.length (some s)=R ++ [some s]:=by
    rw [List.set_append_right _ _ (Nat.le_refl _),Nat.sub_self]
    rfl
   rw [hset] at g4
   refine ⟨g3,b',⟨g4,fun i hi=>?_,fun he=>?_⟩,by rw [ASt.set_set]⟩
   ·rw [List.length_append] at hi
    have h1l : [some s].length=1:=rfl
    obtain rfl:i=R.length:=by omega
    rw [List.getElem?_append_right (Nat.le_refl _),Nat.sub_self]
    simp
   ·simp at he
  have fin:∀ b',SP b' (R ++ [some s])->∀ τ,τ=σ.set B (some (.obj (bytesAV b')))->∃ i b' R',AV.tuple [AV.int .i64 (R.length:Int),AV.bool true] = .tuple [.int .i64 ((i:Nat):Int),.bool true]/\i<=124/\getR R i=none/\SP b' R'/\(∀ j,getR R' j=if j=i then some s else getR R j)/\τ=σ.set B (some (.obj (bytesAV b'))):=fun b' hb' τ hτ=>
   ⟨R.length,b',_,rfl,hf,by unfold getR;rw [List.getElem?_eq_none (Nat.le_refl _)];rfl,hb',fun j=>getR_app,hτ⟩
  obtain ⟨L,hL⟩:∃ L:Nat,L=R.length+1:=⟨_,rfl⟩
  have eL:(R.length:Int)+1=(L:Int):=by omega
  simp only [<-hL] at tail
  rw [hlen] at he
  by_cases hq:slLo b<4+4*(R.length+1)
  ·have hq':(slLo b:Int)<4+4*(L:Int):=by omega
   have hpk:=slpack_ok (c:=c) hB hW hc (by omega) (by omega)
   refine a63 (by simp) ?_
   simp (disch:=first|assumption|omega|(simp only [List.length_append,List.length_cons,List.length_nil];omega)) only [go_sem]
   refine hrm.mono ?_
   rintro v σ1 ⟨rfl,rfl⟩
   simp (disch:=first|assumption|omega|(simp only [List.length_append,List.length_cons,List.length_nil];omega)) only [go_sem,c1,hne]
   refine he.mono ?_
   rintro v σ1 ⟨rfl,rfl⟩
   simp (disch:=first|assumption|omega|(simp only [List.length_append,List.length_cons,List.length_nil];omega)) only [go_sem]
   refine hn.mono ?_
   rintro v σ1 ⟨rfl,rfl⟩
   simp (disch:=first|assumption|omega|(simp only [List.length_append,List.length_cons,List.length_nil];omega)) only [go_sem]
   refine hlow.mono ?_
   rintro v σ1 ⟨rfl,rfl⟩
   simp (disch:=first|assumption|omega|(simp only [List.length_append,List.length_cons,List.length_nil];omega)) only [go_sem,eL,hq']
   refine hpk.mono ?_
   rintro v σ2 ⟨rfl,b1,g1,g2,rfl⟩
   obtain ⟨t1,t2,t3⟩:=tail (σ1.set B (some (.obj (bytesAV b1)))) b1 (ASt.set_same _ _ _) g1 (by omega)
   rw [ASt.set_set] at t1 t2 t3
   rw [ASt.set_set] at t2
   simp (disch:=first|assumption|omega|(simp only [List.length_append,List.length_cons,List.length_nil];omega)) only [go_sem,eL]
   refine t1.mono ?_
   rintro v σ2 ⟨rfl,rfl⟩
   simp (disch:=first|assumption|omega|(simp only [List.length_append,List.length_cons,List.length_nil];omega)) only [go_sem]
   refine t2.mono ?_
   rintro v σ2 ⟨rfl,rfl⟩
   simp (disch:=first|assumption|omega|(simp only [List.length_append,List.length_cons,List.length_nil];omega)) only [go_sem]
   refine t3.mono ?_
   rintro v σ2 ⟨rfl,b',g3,rfl⟩
   simp (disch:=first|assumption|omega|(simp only [List.length_append,List.length_cons,List.length_nil];omega)) only [go_sem]
   exact retC_by (.refl _) (.refl _) (fin b' g3 _ rfl)
  ·have hq':¬ (slLo b:Int)<4+4*(L:Int):=by omega
   obtain ⟨t1,t2,t3⟩:=tail σ b hB hW (by omega)
   refine a63 (by simp) ?_
   simp (disch:=first|assumption|omega|(simp only [List.length_append,List.length_cons,List.length_nil];omega)) only [go_sem]
   refine hrm.mono ?_
   rintro v σ1 ⟨rfl,rfl⟩
   simp (disch:=first|assumption|omega|(simp only [List.length_append,List.length_cons,List.length_nil];omega)) only [go_sem,c1,hne]
   refine he.mono ?_
   rintro v σ1 ⟨rfl,rfl⟩
   simp (disch:=first|assumption|omega|(simp only [List.length_append,List.length_cons,List.length_nil];omega)) only [go_sem]
   refine hn.mono ?_
   rintro v σ1 ⟨rfl,rfl⟩
   simp (disch:=first|assumption|omega|(simp only [List.length_append,List.length_cons,List.length_nil];omega)) only [go_sem]
   refine hlow.mono ?_
   rintro v σ1 ⟨rfl,rfl⟩
   simp (disch:=first|assumption|omega|(simp only [List.length_append,List.length_cons,List.length_nil];omega)) only [go_sem,eL,hq']
   refine t1.mono ?_
   rintro v σ2 ⟨rfl,rfl⟩
   simp (disch:=first|assumption|omega|(simp only [List.length_append,List.length_cons,List.length_nil];omega)) only [go_sem]
   refine t2.mono ?_
   rintro v σ2 ⟨rfl,rfl⟩
   simp (disch:=first|assumption|omega|(simp only [List.length_append,List.length_cons,List.length_nil];omega)) only [go_sem]
   refine t3.mono ?_
   rintro v σ2 ⟨rfl,b',g3,rfl⟩
   simp (disch:=first|assumption|omega|(simp only [List.length_append,List.length_cons,List.length_nil];omega)) only [go_sem]
   exact retC_by (.refl _) (.refl _) (fin b' g3 _ rfl)
 ·rw [if_neg hlen] at hr0
  have hlen':¬ (k:Int)=(R.length:Int):=by omega
  have hkR:R[k]? = some none:=by rw [hk];exact emptyR_at (by omega)
  have hst:=slstore_ok (c:=c) hB hW hc hkR hs (by omega)
  refine a63 (by simp) ?_
  simp (disch:=first|assumption|omega|(simp only [List.length_append,List.length_cons,List.length_nil];omega)) only [go_sem]
  refine hrm.mono ?_
  rintro v σ1 ⟨rfl,rfl⟩
  simp (disch:=first|assumption|omega|(simp only [List.length_append,List.length_cons,List.length_nil];omega)) only [go_sem,c1,hne]
  refine he.mono ?_
  rintro v σ1 ⟨rfl,rfl⟩
  simp (disch:=first|assumption|omega|(simp only [List.length_append,List.length_cons,List.length_nil];omega)) only [go_sem]
  refine hn.mono ?_
  rintro v σ1 ⟨rfl,rfl⟩
  simp (disch:=first|assumption|omega|(simp only [List.length_append,List.length_cons,List.length_nil];omega)) only [go_sem,hlen']
  refine hst.mono ?_
  rintro v σ2 ⟨rfl,b',g1,rfl⟩
  simp (disch:=first|assumption|omega|(simp only [List.length_append,List.length_cons,List.length_nil];omega)) only [go_sem]
  refine retC_by (.refl _) (.refl _) ⟨k,b',R.set k (some s),rfl,by omega,by unfold getR;rw [hkR];rfl,⟨g1,fun i hi=>?_,fun he=>?_⟩,fun j=>getR_set (by omega),rfl⟩
  ·rw [List.length_set] at hi
   by_cases hik:i=k
   ·rw [hik,List.getElem?_set_self (by omega)];simp
   ·rw [List.getElem?_set_ne (Ne.symm hik)];exact h.last i hi
  ·have:=congrArg List.length he
   rw [List.length_set,List.length_nil] at this
   omega
theorem slinit_ok (hB:σ B=some (.obj (bytesAV b))) (hl:b.length=504):ACalls Tryz.prog 62 [.msl B 0 504 c] σ fun r σ'=>r = .tuple []/\∃ b',SP b' []/\σ'=σ.set B (some (.obj (bytesAV b'))):=by
 have hzl:(List.replicate 504 (0:UInt8)).length=504:=List.length_replicate
 have h0:slLn (List.replicate 504 (0:UInt8))=0:=by decide +kernel
 have hput:=slput_ok (c:=c) (σ:=σ.set B (some (.obj (bytesAV (List.replicate 504 0))))) (B:=B) (o:=2) (v:=504) (ASt.set_same _ _ _) hzl (by omega) (by omega)
 have hsp:=SW.bare hzl h0
 have hsplice:splice (bytesAV b) 0 (504 * [AV.int .u8 0].length) (List.replicate 504 [AV.int .u8 0]).flatten=bytesAV (List.replicate 504 0):=by
  rw [zflat]
  unfold splice
  rw [List.take_zero,List.nil_append,List.drop_of_length_le (by rw [kbytes_len,hl];decide),List.append_nil]
 have e2:((2:Nat):Int)=2:=rfl
 have e504:((504:Nat):Int)=504:=rfl
 rw [ASt.set_set,e2,e504] at hput
 generalize List.replicate 504 (0:UInt8)=Z at *
 refine a62 (by simp) ?_
 simp (disch:=first|assumption|omega|(simp only [List.length_append,List.length_cons,List.length_nil];omega)) only [go_sem]
 refine clrC_by hB rfl (by rw [kbytes_len,hl];decide) ?_
 rw [hsplice]
 simp (disch:=first|assumption|omega|(simp only [List.length_append,List.length_cons,List.length_nil];omega)) only [go_sem]
 refine hput.mono ?_
 rintro v σ' ⟨rfl,rfl⟩
 simp (disch:=first|assumption|omega|(simp only [List.length_append,List.length_cons,List.length_nil];omega)) only [go_sem]
 exact retC_by (.refl _) (.refl _) ⟨rfl,_,hsp,rfl⟩
end
end Go.A
namespace Go.A
open Go.Proofs
/-! 48: tabular/slot.Drop -/
def c48_19:ACode := .seq (.seq (.ops [ oq 17 (.mv (.t 5)),oq 18 (.bin .gtr (.t 17) (.v (.int .i64 0)))]) (.cond (.t 18) .skip (.exit 0))) (.block 1 (.seq (.seq (.ops [ oq 20 (.mv (.t 0)),oq 21 (.mv (.t 5)),oq 22 (.bin .sub (.t 21) (.v (.int .i64 1))),oe 23 (.call 108 [(.t 20),(.t 22)]),oq 19 (.mv (.t 23)),oq 24 (.ext 0 (.t 19)),oq 25 (.ext 1 (.t 19)),oq 6 (.mv (.t 24)),oq 7 (.mv (.t 25))]) (.seq (.ops [ oq 26 (.mv (.t 6)),oq 27 (.bin .gtr (.t 26) (.v (.int .i64 0)))]) (.cond (.t 27) (.exit 0) .skip))) (.ops [ oq 28 (.mv (.t 5)),oq 29 (.bin .sub (.t 28) (.v (.int .i64 1))),oq 5 (.mv (.t 29))])))
def c48_35:ACode := .seq (.ops [ oq 4 (.mv (.v (.bool false)))]) (.seq (.seq (.ops [ oq 8 (.mv (.t 0)),oq 9 (.mv (.t 1)),oe 10 (.call 105 [(.t 8),(.t 9)]),oq 11 (.un .not (.t 10))]) (.cond (.t 11) (.seq (.ops [ oq 4 (.mv (.v (.bool false)))]) .ret) .skip)) (.seq (.ops [ oq 12 (.mv (.t 0)),oq 13 (.mv (.t 1)),oe 14 (.call 106 [(.t 12),(.t 13),(.v (.int .i64 0)),(.v (.int .i64 0))])]) (.seq (.ops [ oq 15 (.mv (.t 0)),oe 16 (.call 107 [(.t 15)]),oq 5 (.mv (.t 16))]) (.seq (.block 0 (.loop c48_19)) (.seq (.ops [ oq 30 (.mv (.t 0)),oq 31 (.mv (.t 5)),oe 32 (.call 109 [(.t 30),(.v (.int .i64 0)),(.t 31)])]) (.seq (.seq (.ops [ oq 33 (.mv (.t 5)),oq 34 (.bin .eql (.t 33) (.v (.int .i64 0)))]) (.cond (.t 34) (.ops [ oq 35 (.mv (.t 0)),oe 36 (.call 109 [(.t 35),(.v (.int .i64 2)),(.v (.int .i64 504))])]) .skip)) (.seq (.ops [ oq 4 (.mv (.v (.bool true)))]) .ret)))))))
@[go_sem] def c48_19_wp:=wp_of c48_19.eq_1
@[go_sem] def c48_35_wp:=wp_of c48_35.eq_1
def c48:AFn:=⟨37,[.t 4],c48_35⟩
theorem c48_ok:compF Tryz.prog Tryz.f48=some c48:=by kernel_rfl
theorem a48 {args:List AV} {σ:ASt} {R:AV->ASt->Prop} (hl:args.length<=37) (h:c48_35.wp Tryz.prog (RetQ [.t 4] R) (init args) σ):ACalls Tryz.prog 48 args σ R:=acalls_of Tryz.func48 c48_ok hl h
/-! 96: tabular/slot.Good -/
def c96_6:ACode := .ops [ oe 3 (.alloc [(.bool false),(.bool false),(.bool false),(.bool false),(.bool false),(.bool false),(.bool false),(.bool false),(.bool false),(.bool false),(.bool false),(.bool false),(.bool false),(.bool false),(.bool false),(.bool false),(.bool false),(.bool false),(.bool false),(.bool false),(.bool false),(.bool false),(.bool false),(.bool false),(.bool false),(.bool false),(.bool false),(.bool false),(.bool false),(.bool false),(.bool false),(.bool false),(.bool false),(.bool false),(.bool false),(.bool false),(.bool false),(.bool false),(.bool false),(.bool false),(.bool false),(.bool false),(.bool false),(.bool false),(.bool false),(.bool false),(.bool false),(.bool false),(.bool false),(.bool false),(.bool false),(.bool false),(.bool false),(.bool false),(.bool false),(.bool false),(.bool false),(.bool false),(.bool false),(.bool false),(.bool false),(.bool false),(.bool false),(.bool false),(.bool false),(.bool false),(.bool false),(.bool false),(.bool false),(.bool false),(.bool false),(.bool false),(.bool false),(.bool false),(.bool false),(.bool false),(.bool false),(.bool false),(.bool false),(.bool false),(.bool false),(.bool false),(.bool false),(.bool false),(.bool false),(.bool false),(.bool false),(.bool false),(.bool false),(.bool false),(.bool false),(.bool false),(.bool false),(.bool false),(.bool false),(.bool false),(.bool false),(.bool false),(.bool false),(.bool false),(.bool false),(.bool false),(.bool false),(.bool false),(.bool false),(.bool false),(.bool false),(.bool false),(.bool false),(.bool false),(.bool false),(.bool false),(.bool false),(.bool false),(.bool false),(.bool false),(.bool false),(.bool false),(.bool false),(.bool false),(.bool false),(.bool false),(.bool false),(.bool false),(.bool false),(.bool false),(.bool false),(.bool false),(.bool false),(.bool false),(.bool false),(.bool false),(.bool false),(.bool false),(.bool false),(.bool false),(.bool false),(.bool false),(.bool false),(.bool false),(.bool false),(.bool false),(.bool false),(.bool false),(.bool false),(.bool false),(.bool false),(.bool false),(.bool false),(.bool false),(.bool false),(.bool false),(.bool false),(.bool false),(.bool false),(.bool false),(.bool false),(.bool false),(.bool false),(.bool false),(.bool false),(.bool false),(.bool false),(.bool false),(.bool false),(.bool false),(.bool false),(.bool false),(.bool false),(.bool false),(.bool false),(.bool false),(.bool false),(.bool false),(.bool false),(.bool false),(.bool false),(.bool false),(.bool false),(.bool false),(.bool false),(.bool false),(.bool false),(.bool false),(.bool false),(.bool false),(.bool false),(.bool false),(.bool false),(.bool false),(.bool false),(.bool false),(.bool false),(.bool false),(.bool false),(.bool false),(.bool false),(.bool false),(.bool false),(.bool false),(.bool false),(.bool false),(.bool false),(.bool false),(.bool false),(.bool false),(.bool false),(.bool false),(.bool false),(.bool false),(.bool false),(.bool false),(.bool false),(.bool false),(.bool false),(.bool false),(.bool false),(.bool false),(.bool false),(.bool false),(.bool false),(.bool false),(.bool false),(.bool false),(.bool false),(.bool false),(.bool false),(.bool false),(.bool false),(.bool false),(.bool false),(.bool false),(.bool false),(.bool false),(.bool false),(.bool false),(.bool false),(.bool false),(.bool false),(.bool false),(.bool false),(.bool false),(.bool false),(.bool false),(.bool false),(.bool false),(.bool false),(.bool false),(.bool false),(.bool false),(.bool false),(.bool false),(.bool false),(.bool false),(.bool false),(.bool false),(.bool false),(.bool false),(.bool false),(.bool false),(.bool false),(.bool false),(.bool false),(.bool false),(.bool false),(.bool false),(.bool false),(.bool false),(.bool false),(.bool false),(.bool false),(.bool false),(.bool false),(.bool false),(.bool false),(.bool false),(.bool false),(.bool false),(.bool false),(.bool false),(.bool false),(.bool false),(.bool false),(.bool false),(.bool false),(.bool false),(.bool false),(.bool false),(.bool false),(.bool false),(.bool false),(.bool false),(.bool false),(.bool false),(.bool false),(.bool false),(.bool false),(.bool false),(.bool false),(.bool false),(.bool false),(.bool false),(.bool false),(.bool false),(.bool false),(.bool false),(.bool false),(.bool false),(.bool false),(.bool false),(.bool false),(.bool false),(.bool false),(.bool false),(.bool false),(.bool false),(.bool false),(.bool false),(.bool false),(.bool false),(.bool false),(.bool false),(.bool false),(.bool false),(.bool false),(.bool false),(.bool false),(.bool false),(.bool false),(.bool false),(.bool false),(.bool false),(.bool false),(.bool false),(.bool false),(.bool false),(.bool false),(.bool false),(.bool false),(.bool false),(.bool false),(.bool false),(.bool false),(.bool false),(.bool false),(.bool false),(.bool false),(.bool false),(.bool false),(.bool false),(.bool false),(.bool false),(.bool false),(.bool false),(.bool false),(.bool false),(.bool false),(.bool false),(.bool false),(.bool false),(.bool false),(.bool false),(.bool false),(.bool false),(.bool false),(.bool false),(.bool false),(.bool false),(.bool false),(.bool false),(.bool false),(.bool false),(.bool false),(.bool false),(.bool false),(.bool false),(.bool false),(.bool false),(.bool false),(.bool false),(.bool false),(.bool false),(.bool false),(.bool false),(.bool false),(.bool false),(.bool false),(.bool false),(.bool false),(.bool false),(.bool false),(.bool false),(.bool false),(.bool false),(.bool false),(.bool false),(.bool false),(.bool false),(.bool false),(.bool false),(.bool false),(.bool false),(.bool false),(.bool false),(.bool false),(.bool false),(.bool false),(.bool false),(.bool false),(.bool false),(.bool false),(.bool false),(.bool false),(.bool false),(.bool false),(.bool false),(.bool false),(.bool false),(.bool false),(.bool false),(.bool false),(.bool false),(.bool false),(.bool false),(.bool false),(.bool false),(.bool false),(.bool false),(.bool false),(.bool false),(.bool false),(.bool false),(.bool false),(.bool false),(.bool false),(.bool false),(.bool false),(.bool false),(.bool false),(.bool false),(.bool false),(.bool false),(.bool false),(.bool false),(.bool false),(.bool false),(.bool false),(.bool false),(.bool false),(.bool false),(.bool false),(.bool false),(.bool false),(.bool false),(.bool false),(.bool false),(.bool false),(.bool false),(.bool false),(.bool false),(.bool false),(.bool false),(.bool false),(.bool false),(.bool false),(.bool false),(.bool false),(.bool false),(.bool false),(.bool false),(.bool false),(.bool false),(.bool false),(.bool false),(.bool false),(.bool false),(.bool false),(.bool false),(.bool false),(.bool false),(.bool false),(.bool false),(.bool false),(.bool false),(.bool false),(.bool false),(.bool false),(.bool false),(.bool false),(.bool false),(.bool false),(.bool false),(.bool false),(.bool false),(.bool false),(.bool false),(.bool false),(.bool false),(.bool false),(.bool false),(.bool false),(.bool false),(.bool false),(.bool false)])]
def c96_40:ACode := .seq (.seq (.ops [ oq 62 (.mv (.t 7)),oq 63 (.mv (.t 5)),oq 64 (.mv (.t 6)),oq 65 (.bin .add (.t 63) (.t 64)),oq 66 (.bin .lss (.t 62) (.t 65))]) (.cond (.t 66) .skip (.exit 2))) (.seq (.block 3 (.seq (.seq (.ops [ oq 69 (.mv (.t 7)),oq 70 (.iaa 504 1 (.t 3) (.t 69)),oq 71 (.ld none (.t 70))]) (.cond (.t 71) (.seq (.ops [ oq 2 (.mv (.v (.bool false)))]) .ret) .skip)) (.ops [ oq 72 (.mv (.t 7)),oq 73 (.iaa 504 1 (.t 3) (.t 72)),oz (.store 1 (.t 73) (.v (.bool true)))]))) (.ops [ oq 67 (.mv (.t 7)),oq 68 (.bin .add (.t 67) (.v (.int .i64 1))),oq 7 (.mv (.t 68))]))
def c96_52:ACode := .seq (.ops [ oq 28 (.bin .lss (.t 27) (.t 26))]) (.seq (.cond (.t 28) .skip (.exit 0)) (.seq (.block 1 (.seq (.ops [ oq 29 (.mv (.t 27)),oq 4 (.mv (.t 29))]) (.seq (.ops [ oq 31 (.mv (.t 0)),oq 32 (.mv (.t 4)),oe 33 (.call 108 [(.t 31),(.t 32)]),oq 30 (.mv (.t 33)),oq 34 (.ext 0 (.t 30)),oq 35 (.ext 1 (.t 30)),oq 5 (.mv (.t 34)),oq 6 (.mv (.t 35))]) (.seq (.seq (.ops [ oq 36 (.mv (.t 5)),oq 37 (.bin .eql (.t 36) (.v (.int .i64 0)))]) (.cond (.t 37) (.seq (.seq (.ops [ oq 38 (.mv (.t 6)),oq 39 (.bin .neq (.t 38) (.v (.int .i64 0))),oq 40 (.mv (.t 39)),⟨some 41,some (40,false),.q (.mv (.t 4)),[]⟩,⟨some 42,some (40,false),.q (.mv (.t 0)),[]⟩,⟨some 43,some (40,false),.e (.call 107 [(.t 42)]),[]⟩,⟨some 44,some (40,false),.q (.bin .sub (.t 43) (.v (.int .i64 1))),[]⟩,⟨some 45,some (40,false),.q (.bin .eql (.t 41) (.t 44)),[]⟩,oq 46 (.pick (.t 40) (.v (.bool true)) (.t 45))]) (.cond (.t 46) (.seq (.ops [ oq 2 (.mv (.v (.bool false)))]) .ret) .skip)) (.exit 1)) .skip)) (.seq (.seq (.ops [ oq 47 (.mv (.t 6)),oq 48 (.bin .eql (.t 47) (.v (.int .i64 0))),oq 49 (.mv (.t 48)),⟨some 50,some (49,false),.q (.mv (.t 5)),[]⟩,⟨some 51,some (49,false),.q (.mv (.t 0)),[]⟩,⟨some 52,some (49,false),.e (.call 125 [(.t 51)]),[]⟩,⟨some 53,some (49,false),.q (.bin .lss (.t 50) (.t 52)),[]⟩,oq 54 (.pick (.t 49) (.v (.bool true)) (.t 53)),oq 55 (.mv (.t 54)),⟨some 56,some (55,false),.q (.mv (.t 5)),[]⟩,⟨some 57,some (55,false),.q (.mv (.t 6)),[]⟩,⟨some 58,some (55,false),.q (.bin .add (.t 56) (.t 57)),[]⟩,⟨some 59,some (55,false),.q (.bin .gtr (.t 58) (.v (.int .i64 504))),[]⟩,oq 60 (.pick (.t 55) (.v (.bool true)) (.t 59))]) (.cond (.t 60) (.seq (.ops [ oq 2 (.mv (.v (.bool false)))]) .ret) .skip)) (.seq (.ops [ oq 61 (.mv (.t 5)),oq 7 (.mv (.t 61))]) (.block 2 (.loop c96_40)))))))) (.ops [ oq 74 (.bin .add (.t 27) (.v (.int .i64 1))),oq 27 (.mv (.t 74))])))
def c96_59:ACode := .seq c96_6 (.seq (.seq (.ops [ oq 25 (.mv (.t 0)),oe 26 (.call 107 [(.t 25)]),oq 27 (.mv (.v (.int .i64 0)))]) (.block 0 (.loop c96_52))) (.seq (.ops [ oq 75 (.mv (.t 0)),oe 76 (.call 107 [(.t 75)]),oq 77 (.bin .gtr (.t 76) (.v (.int .i64 0))),oq 78 (.mv (.t 77)),⟨some 79,some (78,false),.q (.mv (.t 0)),[]⟩,⟨some 80,some (78,false),.e (.call 125 [(.t 79)]),[]⟩,⟨some 81,some (78,false),.q (.bin .eql (.t 80) (.v (.int .i64 504))),[]⟩,oq 82 (.pick (.t 78) (.v (.bool true)) (.t 81)),oq 2 (.mv (.t 82))]) .ret))
def c96_60:ACode := .seq (.seq (.ops [ oq 8 (.mv (.t 0)),oq 9 (.len (.t 8)),oq 10 (.bin .neq (.t 9) (.v (.int .i64 504))),oq 11 (.mv (.t 10)),⟨some 12,some (11,false),.q (.mv (.t 0)),[]⟩,⟨some 13,some (11,false),.e (.call 107 [(.t 12)]),[]⟩,⟨some 14,some (11,false),.q (.bin .mul (.v (.int .i64 4)) (.t 13)),[]⟩,⟨some 15,some (11,false),.q (.bin .add (.v (.int .i64 4)) (.t 14)),[]⟩,⟨some 16,some (11,false),.q (.mv (.t 0)),[]⟩,⟨some 17,some (11,false),.e (.call 125 [(.t 16)]),[]⟩,⟨some 18,some (11,false),.q (.bin .gtr (.t 15) (.t 17)),[]⟩,oq 19 (.pick (.t 11) (.v (.bool true)) (.t 18)),oq 20 (.mv (.t 19)),⟨some 21,some (20,false),.q (.mv (.t 0)),[]⟩,⟨some 22,some (20,false),.e (.call 125 [(.t 21)]),[]⟩,⟨some 23,some (20,false),.q (.bin .gtr (.t 22) (.v (.int .i64 504))),[]⟩,oq 24 (.pick (.t 20) (.v (.bool true)) (.t 23))]) (.cond (.t 24) (.seq (.ops [ oq 2 (.mv (.v (.bool false)))]) .ret) .skip)) c96_59
def c96_61:ACode := .seq (.ops [ oq 2 (.mv (.v (.bool false)))]) c96_60
@[go_sem] def c96_40_wp:=wp_of c96_40.eq_1
@[go_sem] def c96_52_wp:=wp_of c96_52.eq_1
def c96:AFn:=⟨83,[.t 2],c96_61⟩
theorem c96_ok:compF Tryz.prog Tryz.f96=some c96:=by kernel_rfl
theorem a96 {args:List AV} {σ:ASt} {R:AV->ASt->Prop} (hl:args.length<=83) (h:c96_61.wp Tryz.prog (RetQ [.t 2] R) (init args) σ):ACalls Tryz.prog 96 args σ R:=acalls_of Tryz.func96 c96_ok hl h
end Go.A
namespace Go.A
open Go.Proofs
section
variable {σ:ASt} {B c i:Nat} {b:List UInt8} {R:Rcs} {s:List UInt8}
theorem getR_take {n j:Nat} (hd:∀ j,n<=j->j<R.length->R[j]? = some none):getR (R.take n) j=getR R j:=by
 unfold getR
 rw [List.getElem?_take]
 split
 ·rfl
 ·rename_i h
  by_cases hj:j<R.length
  ·rw [hd j (by omega) hj];rfl
  ·rw [List.getElem?_eq_none (by omega)]
set_option maxHeartbeats 1000000 in
theorem sldrop_ok (hB:σ B=some (.obj (bytesAV b))) (h:SP b R) (hR:R[i]? = some (some s)) :
  ACalls Tryz.prog 48 [.msl B 0 504 c,.int .i64 i] σ fun r σ'=>∃ b' R',r = .bool true/\SP b' R'/\(∀ j,getR R' j=if j=i then none else getR R j)/\σ'=σ.set B (some (.obj (bytesAV b'))):=by
 have hW:SW b R:=h.toSW
 have hf:=h.few
 have hl:=h.hl
 have hil:=(List.getElem?_eq_some_iff.1 hR).1
 have hh:=slhas_ok (c:=c) hB hW hR
 have hlay:=sllay_ok (c:=c) (i:=i) (o:=0) (n:=0) hB hl (by omega) (by omega) (by omega)
 obtain ⟨g1,g2⟩:=hW.gone hR
 obtain ⟨b1,hb1⟩:∃ b1,b1=layS b i 0 0:=⟨_,rfl⟩
 obtain ⟨R1,hR1⟩:∃ R1,R1=R.set i none:=⟨_,rfl⟩
 have hgR:∀ j,getR R1 j=if j=i then none else getR R j:=fun j=>by rw [hR1];exact getR_set hil
 have hll:R1.length=R.length:=by rw [hR1,List.length_set]
 rw [<-hb1] at hlay g1 g2
 rw [<-hR1] at g1
 obtain ⟨σ1,hσ1⟩:∃ τ,τ=σ.set B (some (.obj (bytesAV b1))):=⟨_,rfl⟩
 have hB1:σ1 B=some (.obj (bytesAV b1)):=by rw [hσ1];exact ASt.set_same _ _ _
 have hl1:=g1.hl
 have hn:=sllen_ok (c:=c) hB1 hl1
 rw [g1.n,hll] at hn
 have hsl:=fun (i:Nat) (hi:i<125)=>slslot_ok (c:=c) hB1 hl1 hi
 have fin:∀ n,n<=R.length->(∀ j,n<=j->j<R.length->R1[j]? = some none)->(∀ m,n=m+1->R1[m]? ≠ some none) →
   ACalls Tryz.prog 109 [.msl B 0 504 c,.int .i64 0,.int .i64 (n:Int)] σ1 (fun r σ'=>r = .tuple []/\σ'=σ1.set B (some (.obj (bytesAV (spl b1 0 (le16 n)))))) ∧
   ((n:Int)=0->ACalls Tryz.prog 109 [.msl B 0 504 c,.int .i64 2,.int .i64 504] (σ1.set B (some (.obj (bytesAV (spl b1 0 (le16 n)))))) fun r σ'=>r = .tuple []/\∃ b',SP b' (R1.take n)/\σ'=σ.set B (some (.obj (bytesAV b')))) ∧
   (¬ (n:Int)=0->SP (spl b1 0 (le16 n)) (R1.take n))/\∀ j,getR (R1.take n) j=if j=i then none else getR R j:=by
  intro n hnl hd hlast
  obtain ⟨c1,c2⟩:=g1.cut (k:=n) (by omega)
  have e0:=c1.hl
  refine ⟨slput_ok (o:=0) hB1 hl1 (by omega) (by omega),fun h0=>?_,fun h0=>⟨c1,fun j hj=>?_,fun he=>?_⟩,fun j=>by rw [getR_take (by rw [hll];exact hd)];exact hgR j⟩
  ·obtain rfl:n=0:=by omega
   have hq:=slput_ok (c:=c) (σ:=σ1.set B (some (.obj (bytesAV (spl b1 0 (le16 0)))))) (B:=B) (o:=2) (v:=504) (ASt.set_same _ _ _) e0 (by omega) (by omega)
   rw [ASt.set_set,hσ1,ASt.set_set,ASt.set_set] at hq
   rw [hσ1,ASt.set_set]
   have e2:((2:Nat):Int)=2:=rfl
   have e504:((504:Nat):Int)=504:=rfl
   rw [e2,e504] at hq
   refine hq.mono ?_
   rintro v σ' ⟨q1,q2⟩
   exact ⟨q1,_,SW.bare e0 c1.n,q2⟩
  ·have htl:(R1.take n).length=n:=by rw [List.length_take];omega
   rw [htl] at hj
   rw [List.getElem?_take,if_pos (by omega)]
   exact hlast j hj.symm
  ·have htl:(R1.take n).length=n:=by rw [List.length_take];omega
   rw [he,List.length_nil] at htl
   omega
 refine a48 (by simp) ?_
 simp (disch:=first|assumption|omega|(simp only [List.length_append,List.length_cons,List.length_nil];omega)) only [go_sem]
 refine hh.mono ?_
 rintro v σ2 ⟨rfl,rfl⟩
 simp (disch:=first|assumption|omega|(simp only [List.length_append,List.length_cons,List.length_nil];omega)) only [go_sem]
 refine hlay.mono ?_
 rintro v σ3 ⟨rfl,rfl⟩
 rw [<-hσ1]
 simp (disch:=first|assumption|omega|(simp only [List.length_append,List.length_cons,List.length_nil];omega)) only [go_sem]
 refine hn.mono ?_
 rintro v σ3 ⟨rfl,rfl⟩
 simp (disch:=first|assumption|omega|(simp only [List.length_append,List.length_cons,List.length_nil];omega)) only [go_sem]
 refine wp_loop_on (fun (k:Nat) a1 s2=>k<=R.length/\(a1 0 = .msl B 0 504 c/\a1 5 = .int .i64 ((R.length-k:Nat):Int))/\(∀ j,R.length-k<=j->j<R.length->R1[j]? = some none)/\s2=σ3) (fun k=>R.length+1-k) 0 ⟨Nat.zero_le _,?_,fun j h1 h2=>by omega,rfl⟩ ?_
 ·rw [Nat.sub_zero]
  simp (disch:=first|assumption|omega|(simp only [List.length_append,List.length_cons,List.length_nil];omega)) only [go_sem]
 rintro k a1 s2 ⟨hk,hf1,hd,rfl⟩
 obtain ⟨n,hn'⟩:∃ n,n=R.length-k:=⟨_,rfl⟩
 rw [<-hn'] at hf1 hd
 by_cases h0:n=0
 ·have h0':¬ (0:Int)<(n:Int):=by omega
  have h0e:(n:Int)=0:=by omega
  obtain ⟨p1,p2,p3,p4⟩:=fin n (by omega) hd (fun m hm=>by omega)
  have p2:=p2 h0e
  simp (disch:=first|assumption|omega|(simp only [List.length_append,List.length_cons,List.length_nil];omega)) only [go_sem,hf1,h0']
  refine p1.mono ?_
  rintro v σ4 ⟨rfl,rfl⟩
  simp (disch:=first|assumption|omega|(simp only [List.length_append,List.length_cons,List.length_nil];omega)) only [go_sem,hf1,h0e]
  refine p2.mono ?_
  rintro v σ4 ⟨rfl,b',q1,rfl⟩
  simp (disch:=first|assumption|omega|(simp only [List.length_append,List.length_cons,List.length_nil];omega)) only [go_sem]
  exact retC_by (.refl _) (.refl _) ⟨b',_,rfl,q1,p4,rfl⟩
 ·have h0':(0:Int)<(n:Int):=by omega
  obtain ⟨m,hm⟩:∃ m,n=m+1:=⟨n-1,by omega⟩
  have em:(n:Int)-1=(m:Int):=by omega
  obtain ⟨x,hx⟩:∃ x,R1[m]? = some x:=⟨_,List.getElem?_eq_getElem (by omega)⟩
  simp (disch:=first|assumption|omega|(simp only [List.length_append,List.length_cons,List.length_nil];omega)) only [go_sem,hf1,h0',em]
  refine (hsl m (by omega)).mono ?_
  rintro v σ4 ⟨rfl,rfl⟩
  cases x with
  | some t=>
    have hp:(0:Int)<(slAt b1 m:Int):=by have:=g1.pos hx;omega
    obtain ⟨p1,p2,p3,p4⟩:=fin n (by omega) hd (fun m' hm'=>by
     obtain rfl:m'=m:=by omega
     rw [hx];simp)
    have h0e:¬ (n:Int)=0:=by omega
    have p3:=p3 h0e
    simp (disch:=first|assumption|omega|(simp only [List.length_append,List.length_cons,List.length_nil];omega)) only [go_sem,hf1,hp]
    refine p1.mono ?_
    rintro v σ4 ⟨rfl,rfl⟩
    simp (disch:=first|assumption|omega|(simp only [List.length_append,List.length_cons,List.length_nil];omega)) only [go_sem,hf1,h0e]
    refine retC_by (.refl _) (.refl _) ⟨_,_,rfl,p3,p4,?_⟩
    rw [hσ1,ASt.set_set]
  | none=>
    have hz:=(g1.dead m hx).1
    rw [hz]
    have hz':¬ (0:Int)<((0:Nat):Int):=by omega
    simp (disch:=first|assumption|omega|(simp only [List.length_append,List.length_cons,List.length_nil];omega)) only [go_sem,hf1,hz',em]
    refine ⟨k+1,by omega,by omega,?_,fun j h1 h2=>?_⟩
    ·have:R.length-(k+1)=m:=by omega
     rw [this]
    ·by_cases hj:j=m
     ·rw [hj];exact hx
     ·exact hd j (by omega) h2
def z504:List AV:=List.replicate 504 (.bool false)
theorem z504_eq:z504=(List.replicate 504 false).map AV.bool:=by rw [List.map_replicate];rfl
theorem slgood_c6:c96_6 = .ops [⟨some 3,none,.e (.alloc z504),[]⟩]:=by rfl
def Seen (b:List UInt8) (R:Rcs) (i:Nat) (m:Nat->Prop) (L:List Bool):Prop:=L.length=504/\∀ k,L[k]? = some true->(∃ j t,j<i/\R[j]? = some (some t)/\slAt b j<=k/\k<slAt b j+t.length)\/m k
theorem bools_get {L:List Bool} {k:Nat} (hk:k<L.length):(L.map AV.bool)[k]? = some (.bool (L.getD k false)):=by
 rw [List.getElem?_map,List.getD_eq_getElem?_getD,List.getElem?_eq_getElem hk]
 rfl
theorem bools_set {L:List Bool} {k:Nat} (hk:k<L.length):splice (L.map AV.bool) k 1 [.bool true]=(L.set k true).map AV.bool:=by
 unfold splice
 rw [List.map_set,List.set_eq_take_append_cons_drop,if_pos (by rw [List.length_map];exact hk)]
 simp only [List.append_assoc,List.singleton_append,List.cons_append,List.nil_append]
set_option maxHeartbeats 2000000 in
theorem slgood_ok (hB:σ B=some (.obj (bytesAV b))) (h:SP b R):ACalls Tryz.prog 96 [.msl B 0 504 c] σ fun r σ'=>r = .bool true/\σ'=σ:=by
 have hW:SW b R:=h.toSW
 have hf:=h.few
 have hl:=h.hl
 have hn:=sllen_ok (c:=c) hB hl
 have hlow:=sllow_ok (c:=c) hB hl
 rw [h.n] at hn
 have c1:¬ (slLo b:Int)<4+4*(R.length:Int):=by have:=h.lo;omega
 have c2:¬ (504:Int)<(slLo b:Int):=by have:=h.hi;omega
 have hhi:=h.hi
 refine a96 (by simp) ?_
 rw [c96_61.eq_1,c96_60.eq_1,c96_59.eq_1,slgood_c6]
 have hz:=z504_eq
 generalize z504=Z at *
 simp (disch:=first|assumption|omega|(simp only [List.length_append,List.length_cons,List.length_nil];omega)) only [go_sem]
 refine hn.mono ?_
 rintro v σ1 ⟨rfl,rfl⟩
 simp (disch:=first|assumption|omega|(simp only [List.length_append,List.length_cons,List.length_nil];omega)) only [go_sem]
 refine hlow.mono ?_
 rintro v σ1 ⟨rfl,rfl⟩
 simp (disch:=first|assumption|omega|(simp only [List.length_append,List.length_cons,List.length_nil];omega)) only [go_sem,c1]
 refine hlow.mono ?_
 rintro v σ1 ⟨rfl,rfl⟩
 simp (disch:=first|assumption|omega|(simp only [List.length_append,List.length_cons,List.length_nil];omega)) only [go_sem,c2]
 refine allocC_by fun S hS=>?_
 have hSB:B≠S:=fun e=>by rw [e,hS] at hB;cases hB
 have hB':∀ r,(σ1.set S r) B=some (.obj (bytesAV b)):=fun r=>by rw [ASt.set_ne hSB];exact hB
 have hn':∀ r,ACalls Tryz.prog 107 [.msl B 0 504 c] (σ1.set S r) fun v σ'=>v = .int .i64 (R.length:Int)/\σ'=σ1.set S r:=fun r=>by
  have:=sllen_ok (c:=c) (hB' r) hl
  rwa [h.n] at this
 have hlow':=fun r=>sllow_ok (c:=c) (hB' r) hl
 have hsl:=fun r (i:Nat) (hi:i<125)=>slslot_ok (c:=c) (hB' r) hl hi
 simp (disch:=first|assumption|omega|(simp only [List.length_append,List.length_cons,List.length_nil];omega)) only [go_sem]
 refine (hn' _).mono ?_
 rintro v σ2 ⟨rfl,rfl⟩
 simp (disch:=first|assumption|omega|(simp only [List.length_append,List.length_cons,List.length_nil];omega)) only [go_sem]
 obtain ⟨J,hJ⟩:∃ J:Nat->AFr->ASt->Prop,J=fun i a1 s2=>i<=R.length/\(a1 0 = .msl B 0 504 c/\a1 3 = .ptr S 0/\a1 26 = .int .i64 R.length/\a1 27 = .int .i64 i) ∧
  ∃ L,Seen b R i (fun _=>False) L/\s2=σ1.set S (some (.obj (L.map AV.bool))):=⟨_,rfl⟩
 refine wp_loop_on J (fun i=>R.length+1-i) 0 ?_ ?_
 ·rw [hJ]
  refine ⟨Nat.zero_le _,?_,List.replicate 504 false,⟨List.length_replicate,fun k hk=>?_⟩,by rw [hz]⟩
  ·simp (disch:=first|assumption|omega|(simp only [List.length_append,List.length_cons,List.length_nil];omega)) only [go_sem]
  ·rw [List.getElem?_replicate] at hk
   split at hk
   ·cases hk
   ·cases hk
 intro i a1 s2 hj
 rw [hJ] at hj
 obtain ⟨hi,hf1,L,hL,rfl⟩:=hj
 by_cases hlt':i<R.length
 ·have hlt:(i:Int)<(R.length:Int):=by omega
  obtain ⟨x,hx⟩:∃ x,R[i]? = some x:=⟨_,List.getElem?_eq_getElem hlt'⟩
  cases x with
  | none=>
    obtain ⟨z1,z2⟩:=h.dead i hx
    have hli:¬ (i:Int)=(R.length:Int)-1:=fun e=>h.last i (by omega) hx
    simp (disch:=first|assumption|omega|(simp only [List.length_append,List.length_cons,List.length_nil];omega)) only [go_sem,hf1,hlt]
    refine (hsl _ i (by omega)).mono ?_
    rintro v σ3 ⟨rfl,rfl⟩
    rw [z1,z2]
    have h00:((0:Nat):Int)=0:=rfl
    simp (disch:=first|assumption|omega|(simp only [List.length_append,List.length_cons,List.length_nil];omega)) only [go_sem,hf1,h00]
    refine (hn' _).mono ?_
    rintro v σ3 ⟨rfl,rfl⟩
    simp (disch:=first|assumption|omega|(simp only [List.length_append,List.length_cons,List.length_nil];omega)) only [go_sem,hf1,hli]
    refine ⟨i+1,by omega,?_⟩
    rw [hJ]
    refine ⟨hlt',?_,L,⟨hL.1,fun k hk=>?_⟩,rfl⟩
    ·simp (disch:=first|assumption|omega|(simp only [List.length_append,List.length_cons,List.length_nil];omega)) only [go_sem,hf1]
     all_goals (first|rfl|exact ⟨rfl,rfl⟩)
    ·obtain ⟨j,t,g1,g2⟩:=(hL.2 k hk).resolve_right id
     exact .inl ⟨j,t,by omega,g2⟩
  | some t=>
    obtain ⟨k1,k2,k3,k4,k5⟩:=h.live i t hx
    have htl:0<t.length:=List.length_pos_iff.2 k4
    obtain ⟨p,hp⟩:∃ p,p=slAt b i:=⟨_,rfl⟩
    rw [<-hp] at k1 k2
    have hlo:=h.lo
    have p0:¬ (p:Int)=0:=by omega
    have p1:¬ (t.length:Int)=0:=by omega
    have p2:¬ (p:Int)<(slLo b:Int):=by omega
    have p3:¬ (504:Int)<(p:Int)+(t.length:Int):=by omega
    have hslt:=hsl (some (.obj (L.map AV.bool))) i (by omega)
    rw [k3,← hp] at hslt
    simp (disch:=first|assumption|omega|(simp only [List.length_append,List.length_cons,List.length_nil];omega)) only [go_sem,hf1,hlt]
    refine hslt.mono ?_
    rintro v σ3 ⟨rfl,rfl⟩
    simp (disch:=first|assumption|omega|(simp only [List.length_append,List.length_cons,List.length_nil];omega)) only [go_sem,hf1,p0,p1]
    refine (hlow' _).mono ?_
    rintro v σ3 ⟨rfl,rfl⟩
    simp (disch:=first|assumption|omega|(simp only [List.length_append,List.length_cons,List.length_nil];omega)) only [go_sem,hf1,p2,p3]
    obtain ⟨J2,hJ2⟩:∃ J2:Nat->AFr->ASt->Prop,J2=fun k a1 s2=>(p<=k/\k<=p+t.length)/\(a1 0 = .msl B 0 504 c/\a1 3 = .ptr S 0/\a1 5 = .int .i64 p/\a1 6 = .int .i64 t.length/\a1 7 = .int .i64 k/\a1 26 = .int .i64 R.length/\a1 27 = .int .i64 i) ∧
     ∃ L,Seen b R i (fun x=>p<=x/\x<k) L/\s2=σ1.set S (some (.obj (L.map AV.bool))):=⟨_,rfl⟩
    refine wp_loop_on J2 (fun k=>505-k) p ?_ ?_
    ·rw [hJ2]
     refine ⟨⟨Nat.le_refl _,by omega⟩,?_,L,⟨hL.1,fun k hk => .inl ((hL.2 k hk).resolve_right id)⟩,rfl⟩
     simp (disch:=first|assumption|omega|(simp only [List.length_append,List.length_cons,List.length_nil];omega)) only [go_sem,hf1]
    intro k a2 s3 hj2
    rw [hJ2] at hj2
    obtain ⟨⟨hk1,hk2⟩,hf2,L2,hL2,rfl⟩:=hj2
    by_cases hkt:k<p+t.length
    ·have hkt':(k:Int)<(p:Int)+(t.length:Int):=by omega
     have hk504:(k:Int)<504:=by omega
     have hkl:k<L2.length:=by rw [hL2.1];omega
     have hno:L2.getD k false=false:=by
      cases hc:L2.getD k false with
      | false=>rfl
      | true=>
        have hc':L2[k]? = some true:=by
         rw [List.getD_eq_getElem?_getD,List.getElem?_eq_getElem hkl] at hc
         rw [List.getElem?_eq_getElem hkl]
         exact congrArg some hc
        rcases hL2.2 k hc' with ⟨j,u,g1,g2,g3,g4⟩|⟨g1,g2⟩
        ·have:=h.dis j i u t (by omega) g2 hx
         rw [<-hp] at this
         omega
        ·omega
     have hg:=bools_get hkl
     rw [hno] at hg
     have hst:=bools_set hkl
     have hkm:k+1<=(L2.map AV.bool).length:=by rw [List.length_map];omega
     generalize hM3:(L2.set k true).map AV.bool=M3 at *
     generalize L2.map AV.bool=M2 at *
     simp (disch:=first|assumption|omega|(simp only [List.length_append,List.length_cons,List.length_nil];omega)) only [go_sem,hf2,hkt',hk504,hg,Int.toNat_natCast,Nat.zero_add,hkm,hst]
     refine ⟨k+1,by omega,?_⟩
     rw [hJ2]
     refine ⟨⟨by omega,by omega⟩,?_,L2.set k true,⟨by rw [List.length_set];exact hL2.1,fun x hx2=>?_⟩,by rw [hM3]⟩
     ·simp (disch:=first|assumption|omega|(simp only [List.length_append,List.length_cons,List.length_nil];omega)) only [go_sem,hf2]
      all_goals (first|rfl|exact ⟨rfl,rfl⟩)
     ·by_cases hxk:x=k
      ·exact .inr ⟨by omega,by omega⟩
      ·rw [List.getElem?_set_ne (Ne.symm hxk)] at hx2
       exact (hL2.2 x hx2).imp id fun ⟨g1,g2⟩=>⟨g1,by omega⟩
    ·have hkt':¬ (k:Int)<(p:Int)+(t.length:Int):=by omega
     simp (disch:=first|assumption|omega|(simp only [List.length_append,List.length_cons,List.length_nil];omega)) only [go_sem,hf2,hkt']
     refine ⟨i+1,by omega,?_⟩
     rw [hJ]
     refine ⟨hlt',?_,L2,⟨hL2.1,fun x hx2=>?_⟩,rfl⟩
     ·simp (disch:=first|assumption|omega|(simp only [List.length_append,List.length_cons,List.length_nil];omega)) only [go_sem,hf2]
      all_goals (first|rfl|exact ⟨rfl,rfl⟩)
     ·rcases hL2.2 x hx2 with ⟨j,u,g1,g2⟩|⟨g1,g2⟩
      ·exact .inl ⟨j,u,by omega,g2⟩
      ·exact .inl ⟨i,t,by omega,hx,by rw [<-hp];exact g1,by rw [<-hp];omega⟩
 ·have hlt:¬ (i:Int)<(R.length:Int):=by omega
  by_cases h0:R = []
  ·have hlo504:(slLo b:Int)=504:=by have:=h.emp h0;omega
   have hr0:¬ (0:Int)<(R.length:Int):=by rw [h0];decide
   simp (disch:=first|assumption|omega|(simp only [List.length_append,List.length_cons,List.length_nil];omega)) only [go_sem,hf1,hlt]
   refine (hn' _).mono ?_
   rintro v σ3 ⟨rfl,rfl⟩
   simp (disch:=first|assumption|omega|(simp only [List.length_append,List.length_cons,List.length_nil];omega)) only [go_sem,hf1,hr0]
   refine (hlow' _).mono ?_
   rintro v σ3 ⟨rfl,rfl⟩
   simp (disch:=first|assumption|omega|(simp only [List.length_append,List.length_cons,List.length_nil];omega)) only [go_sem,hlo504]
   exact retC_by (Drop.set hS) (.refl _) ⟨rfl,rfl⟩
  ·have hr0:(0:Int)<(R.length:Int):=by have:=List.length_pos_iff.2 h0;omega
   simp (disch:=first|assumption|omega|(simp only [List.length_append,List.length_cons,List.length_nil];omega)) only [go_sem,hf1,hlt]
   refine (hn' _).mono ?_
   rintro v σ3 ⟨rfl,rfl⟩
   simp (disch:=first|assumption|omega|(simp only [List.length_append,List.length_cons,List.length_nil];omega)) only [go_sem,hf1,hr0]
   exact retC_by (Drop.set hS) (.refl _) ⟨rfl,rfl⟩
end
end Go.A
namespace Go.A
open Go.Proofs
/-! 45: (*tabular/heap.Heap).state -/
def c45_7:ACode := .seq (.ops [ oq 2 (.mv (.v (.int .i64 0))),oq 3 (.mv (.v (.int .i64 0))),oq 4 (.mv (.v (.int .i64 0)))]) (.seq (.ops [ oe 5 (.alloc [(.int .i64 0)]),oe 6 (.alloc [(.int .i64 0)]),oz (.store 1 (.t 5) (.v (.int .i64 0))),oz (.store 1 (.t 6) (.v (.int .i64 0)))]) (.seq (.ops [ oq 8 (.mv (.t 0)),oq 9 (.nc (.t 8)),oq 10 (.fa 0 (.t 9)),oq 11 (.ld none (.t 10)),oq 12 (.mv (.t 0)),oq 13 (.nc (.t 12)),oq 14 (.fa 1 (.t 13)),oq 15 (.ld none (.t 14)),oq 16 (.mkf (.func 104) [] [(.t 5),(.t 6)]),oe 17 (.call 46 [(.t 11),(.t 15),(.t 16)]),oq 7 (.mv (.t 17))]) (.seq (.ops [ oq 18 (.ld none (.t 5)),oq 19 (.ld none (.t 6)),oq 20 (.mv (.t 7)),oq 2 (.mv (.t 18)),oq 3 (.mv (.t 19)),oq 4 (.mv (.t 20))]) .ret)))
@[go_sem] def c45_7_wp:=wp_of c45_7.eq_1
def c45:AFn:=⟨21,[.t 2,.t 3,.t 4],c45_7⟩
theorem c45_ok:compF Tryz.prog Tryz.f45=some c45:=by kernel_rfl
theorem a45 {args:List AV} {σ:ASt} {R:AV->ASt->Prop} (hl:args.length<=21) (h:c45_7.wp Tryz.prog (RetQ [.t 2,.t 3,.t 4] R) (init args) σ):ACalls Tryz.prog 45 args σ R:=acalls_of Tryz.func45 c45_ok hl h
/-! 46: tabular/heap.with -/
def c46_12:ACode := .seq (.ops [ oq 6 (.mv (.v (.int .i64 0)))]) (.seq (.ops [ oq 10 (.mv (.t 0)),oq 11 (.mv (.t 1)),oe 12 (.call 72 [(.t 10),(.t 11)]),oq 9 (.mv (.t 12)),oq 13 (.ext 0 (.t 9)),oq 14 (.ext 1 (.t 9)),oq 7 (.mv (.t 13)),oq 8 (.mv (.t 14))]) (.seq (.seq (.ops [ oq 15 (.mv (.t 8)),oq 16 (.bin .neq (.t 15) (.v (.int .i64 0)))]) (.cond (.t 16) (.seq (.ops [ oq 17 (.mv (.t 8)),oq 6 (.mv (.t 17))]) .ret) .skip)) (.dfr 31 (.t 7) 18 (.seq (.ops [ oq 19 (.mv (.t 2)),oq 20 (.mv (.t 7)),oe 21 (.callv (.t 19) [(.t 20)]),oq 6 (.mv (.t 21))]) .ret))))
@[go_sem] def c46_12_wp:=wp_of c46_12.eq_1
def c46:AFn:=⟨22,[.t 6],c46_12⟩
theorem c46_ok:compF Tryz.prog Tryz.f46=some c46:=by kernel_rfl
theorem a46 {args:List AV} {σ:ASt} {R:AV->ASt->Prop} (hl:args.length<=22) (h:c46_12.wp Tryz.prog (RetQ [.t 6] R) (init args) σ):ACalls Tryz.prog 46 args σ R:=acalls_of Tryz.func46 c46_ok hl h
/-! 98: tabular/heap.word -/
def c98_3:ACode := .seq (.ops [ oq 2 (.mv (.v (.int .i64 0)))]) (.seq (.ops [ oq 3 (.mv (.t 0)),oe 4 (.call 147 [(.t 3)]),oq 5 (.conv .i64 (.t 4)),oq 2 (.mv (.t 5))]) .ret)
@[go_sem] def c98_3_wp:=wp_of c98_3.eq_1
def c98:AFn:=⟨6,[.t 2],c98_3⟩
theorem c98_ok:compF Tryz.prog Tryz.f98=some c98:=by kernel_rfl
theorem a98 {args:List AV} {σ:ASt} {R:AV->ASt->Prop} (hl:args.length<=6) (h:c98_3.wp Tryz.prog (RetQ [.t 2] R) (init args) σ):ACalls Tryz.prog 98 args σ R:=acalls_of Tryz.func98 c98_ok hl h
/-! 104: (*tabular/heap.Heap).state$1 -/
def c104_5:ACode := .seq (.ops [ oq 4 (.mv (.v (.int .i64 0)))]) (.seq (.ops [ oq 5 (.mv (.t 0)),oe 6 (.call 50 [(.t 5)]),oe 7 (.call 98 [(.t 6)]),oq 8 (.mv (.t 0)),oe 9 (.call 50 [(.t 8)]),oq 10 (.slfrom (false,1) (.t 9) (.v (.int .i64 4))),oe 11 (.call 98 [(.t 10)]),oz (.store 1 (.t 1) (.t 7)),oz (.store 1 (.t 2) (.t 11))]) (.seq (.ops [ oq 4 (.mv (.v (.int .i64 0)))]) .ret))
@[go_sem] def c104_5_wp:=wp_of c104_5.eq_1
def c104:AFn:=⟨12,[.t 4],c104_5⟩
theorem c104_ok:compF Tryz.prog Tryz.f104=some c104:=by kernel_rfl
theorem a104 {args:List AV} {σ:ASt} {R:AV->ASt->Prop} (hl:args.length<=12) (h:c104_5.wp Tryz.prog (RetQ [.t 4] R) (init args) σ):ACalls Tryz.prog 104 args σ R:=acalls_of Tryz.func104 c104_ok hl h
/-! 111: tabular/heap.setWord -/
def c111_0:ACode := .ops [ oq 4 (.mv (.t 0)),oq 5 (.mv (.t 1)),oq 6 (.conv .u32 (.t 5)),oe 7 (.call 36 [(.t 4),(.t 6)])]
@[go_sem] def c111_0_wp:=wp_of c111_0.eq_1
def c111:AFn:=⟨8,[],c111_0⟩
theorem c111_ok:compF Tryz.prog Tryz.f111=some c111:=by kernel_rfl
theorem a111 {args:List AV} {σ:ASt} {R:AV->ASt->Prop} (hl:args.length<=8) (h:c111_0.wp Tryz.prog (RetQ [] R) (init args) σ):ACalls Tryz.prog 111 args σ R:=acalls_of Tryz.func111 c111_ok hl h
end Go.A
namespace Go.A
open Go.Proofs
section
variable {base base' σ:ASt} {p n q page fa xa c:Nat} {m:PX} {pg:Pgs} {ed dirty:Bool} {s b:List UInt8}
theorem hpwith_ok {fn:FuncId} {cap:List AV} {K:AV->ASt->List UInt8->Prop} (h:PoolAt base σ p m n pg) (hq:pg q=some s) (hfn:okFn Tryz.prog fn=true)
  (hdo:∀ fa xa c dirty σ1,base xa=none->xa≠0->504<=c->PinAt (base.set xa (some (.obj (bytesAV s)))) σ1 p m n pg q fa xa c dirty →
   ACalls Tryz.prog fn (.ptr fa 0::cap) σ1 fun r σ2=>∃ base' s' ed,PinAt base' σ2 p m n pg q fa xa c ed/\base' xa=some (.obj (bytesAV s'))/\s'.length=504/\(ed=true\/pg q=some s')/\(∃ e,r = .int .i64 e)/\K r (base'.set xa none) s') :
  ACalls Tryz.prog 46 [.ptr p 0,.int .i64 q,.func (.func fn) [] cap] σ fun r σ'=>∃ base' s',K r base' s'/\PoolAt base' σ' p m n (pset pg q (some s')):=by
 refine a46 (by simp) ?_
 simp (disch:=first|assumption|omega|(simp only [List.length_append,List.length_cons,List.length_nil];omega)) only [go_sem]
 refine (plpin_ok h hq).mono ?_
 rintro v σ1 ⟨fa,xa,c,dirty,rfl,hxa,hck,hc,h1⟩
 simp (disch:=first|assumption|omega|(simp only [List.length_append,List.length_cons,List.length_nil];omega)) only [go_sem,hfn]
 refine (hdo fa xa c dirty σ1 hxa hck hc h1).mono ?_
 rintro r σ2 ⟨base',s',ed,h2,hx,hl,hed,⟨e,rfl⟩,hK⟩
 have hun:=plunpin_d h2 hx hl hed hck
 simp (disch:=first|assumption|omega|(simp only [List.length_append,List.length_cons,List.length_nil];omega)) only [go_sem]
 refine hun.mono ?_
 rintro v σ4 ⟨rfl,h4⟩
 exact retC_by (.refl _) (.refl _) ⟨_,_,hK,h4⟩
theorem hpword_ok {B o k v:Nat} (hB:σ B=some (.obj (bytesAV b))) (ho:bat b o 4=le32 v) (hn:4<=k) (hv:v<4294967296):ACalls Tryz.prog 98 [.msl B o k c] σ fun r σ'=>r = .int .i64 v/\σ'=σ:=by
 have w:IntKind.wrap .i64 (v:Int)=v:=wrap_i64 (by omega) (by omega)
 refine a98 (by simp) ?_
 simp (disch:=first|assumption|omega|(simp only [List.length_append,List.length_cons,List.length_nil];omega)) only [go_sem]
 refine (mu32_ok (c:=c) hB ho hn hv).mono ?_
 rintro r σ' ⟨rfl,rfl⟩
 simp (disch:=first|assumption|omega|(simp only [List.length_append,List.length_cons,List.length_nil];omega)) only [go_sem,w]
 exact retC_by (.refl _) (.refl _) ⟨rfl,rfl⟩
theorem hpsetword_ok {B o k v:Nat} {z:Int} (hB:σ B=some (.obj (bytesAV b))) (ho:o+4<=b.length) (hn:4<=k) (hz:IntKind.wrap .u32 z=(v:Int)) (hv:v<4294967296):ACalls Tryz.prog 111 [.msl B o k c,.int .i64 z] σ fun r σ'=>r = .tuple []/\σ'=σ.set B (some (.obj (bytesAV (spl b o (le32 v))))):=by
 refine a111 (by simp) ?_
 simp (disch:=first|assumption|omega|(simp only [List.length_append,List.length_cons,List.length_nil];omega)) only [go_sem,hz]
 refine (mput32_ok (c:=c) hB ho hn hv).mono ?_
 rintro r σ' ⟨rfl,rfl⟩
 simp (disch:=first|assumption|omega|(simp only [List.length_append,List.length_cons,List.length_nil];omega)) only [go_sem]
 exact retC_by (.refl _) (.refl _) ⟨rfl,rfl⟩
def RootP (s:List UInt8) (cur:Nat):Prop:=s.length=504/\bat s 0 4=le32 cur/\cur<60000/\∃ cnt,cnt<4294967296/\bat s 4 4=le32 cnt
theorem set4 (f:ASt) {A B:Nat} (r q:Option Role):(((f.set A r).set B q).set A r).set B q=(f.set A r).set B q:=by
 funext x
 by_cases hB:x=B
 ·rw [hB,ASt.set_same,ASt.set_same]
 ·rw [ASt.set_ne hB,ASt.set_ne hB]
  by_cases hA:x=A
  ·rw [hA,ASt.set_same,ASt.set_same]
  ·rw [ASt.set_ne hA,ASt.set_ne hB]
def Sub (base base':ASt):Prop:=∀ x r,base x=some r->base' x=some r
theorem Sub.refl (base:ASt):Sub base base:=fun x r h=>h
theorem Sub.set {x:Nat} {r:Option Role} (h:Sub base base') (hx:base x=none):Sub base (base'.set x r):=fun y q hy=>by
 rw [ASt.set_ne fun e=>by rw [e,hx] at hy;cases hy]
 exact h y q hy
theorem PoolAt.away (h:PoolAt base σ p m n pg) {x:Nat} (hx:σ x=none):base x=none/\x≠0:=by
 have hb:=own_none (fun y r=>h.at) x hx
 exact ⟨hb,ck_ne h.ck hb⟩
theorem PinAt.away (h:PinAt base σ p m n pg page fa xa c dirty) {x:Nat} (hx:σ x=none):base x=none/\x≠0:=by
 have hb:=own_none (fun y r=>h.at) x hx
 exact ⟨hb,ck_ne h.ck hb⟩
theorem PoolAt.box (h:PoolAt base σ p m n pg) {x:Nat} (hx:σ x=none) (r:Role):PoolAt (base.set x (some r)) (σ.set x (some r)) p m n pg:=
 h.set (some r) (.inr hx) (h.away hx).2
theorem PoolAt.sub (h:PoolAt base' σ p m n pg) (hs:Sub base base') (hc:CkT base):PoolAt base σ p m n pg:=h.less hs hc
theorem hpstate1_ok {A B cur cnt:Nat} {ra rb:AV} (h:PinAt base σ p m n pg page fa xa c dirty) (hx:base xa=some (.obj (bytesAV s))) (hc:504<=c) (hA:base A=some (.obj [ra])) (hB:base B=some (.obj [rb])) (hAB:A≠B) (kA:A≠0) (kB:B≠0)
  (hl:s.length=504) (hs1:bat s 0 4=le32 cur) (hcur:cur<60000) (hs2:bat s 4 4=le32 cnt) (hcnt:cnt<4294967296) :
  ACalls Tryz.prog 104 [.ptr fa 0,.ptr A 0,.ptr B 0] σ fun r σ'=>r = .int .i64 0/\PinAt ((base.set A (some (.obj [.int .i64 cur]))).set B (some (.obj [.int .i64 cnt]))) σ' p m n pg page fa xa c dirty:=by
 have hb:=plbytes_ok h
 have hX:=h.at hx
 have w1:=hpword_ok (c:=c) (o:=0) (k:=504) hX hs1 (by omega) (by omega)
 have w2:=hpword_ok (c:=c-4) (o:=4) (k:=504-4) hX hs2 (by omega) hcnt
 have s4:slV (false,1) (.msl xa 0 504 c) 4 504=some (.msl xa 4 (504-4) (c-4)):=slV_page (o:=4) (by omega) hc
 have hAs:=h.at hA
 have hBs:=h.at hB
 have h1:=h.set (x:=A) (some (.obj [.int .i64 cur])) (.inl (by rw [hA];simp)) kA
 have h2:=h1.set (x:=B) (some (.obj [.int .i64 cnt])) (.inl (by rw [ASt.set_ne (Ne.symm hAB),hB];simp)) kB
 have hBA:=Ne.symm hAB
 refine a104 (by simp) ?_
 simp (disch:=first|assumption|omega|(simp only [List.length_append,List.length_cons,List.length_nil];omega)) only [go_sem]
 refine hb.mono ?_
 rintro v σ1 ⟨rfl,rfl⟩
 simp (disch:=first|assumption|omega|(simp only [List.length_append,List.length_cons,List.length_nil];omega)) only [go_sem]
 refine w1.mono ?_
 rintro v σ1 ⟨rfl,rfl⟩
 simp (disch:=first|assumption|omega|(simp only [List.length_append,List.length_cons,List.length_nil];omega)) only [go_sem]
 refine hb.mono ?_
 rintro v σ1 ⟨rfl,rfl⟩
 simp (disch:=first|assumption|omega|(simp only [List.length_append,List.length_cons,List.length_nil];omega)) only [go_sem,s4]
 refine w2.mono ?_
 rintro v σ1 ⟨rfl,rfl⟩
 simp (disch:=first|assumption|omega|(simp only [List.length_append,List.length_cons,List.length_nil];omega)) only [go_sem,hAs,hBs]
 exact retC_by (.refl _) (.refl _) ⟨rfl,h2⟩
theorem hpstate_ok {hb root cur:Nat} (h:PoolAt base σ p m n pg) (hh:base hb=some (.obj [.ptr p 0,.int .i64 root])) (hq:pg root=some s) (hs:RootP s cur) :
  ACalls Tryz.prog 45 [.ptr hb 0] σ fun r σ'=>(∃ cnt:Nat,cnt<4294967296/\r = .tuple [.int .i64 cur,.int .i64 cnt,.int .i64 0])/\PoolAt base σ' p m n pg:=by
 obtain ⟨hl,hs1,hs2,cnt,hs3,hs4⟩:=hs
 have hhs:=h.at hh
 have hok:okFn Tryz.prog 104=true:=by kernel_rfl
 have hcb:=h.ck
 refine a45 (by simp) ?_
 simp (disch:=first|assumption|omega|(simp only [List.length_append,List.length_cons,List.length_nil];omega)) only [go_sem]
 refine allocC_by fun A hA=>?_
 simp (disch:=first|assumption|omega|(simp only [List.length_append,List.length_cons,List.length_nil];omega)) only [go_sem]
 refine allocC_by fun B hB=>?_
 have hAB:A≠B:=fun e=>by rw [e,ASt.set_same] at hB;cases hB
 obtain ⟨bA,kA⟩:=h.away hA
 have h1:=h.box hA (.obj [.int .i64 0])
 obtain ⟨bB,kB⟩:=h1.away hB
 rw [ASt.set_ne (Ne.symm hAB)] at bB
 have h2:=h1.box hB (.obj [.int .i64 0])
 have hA2:((base.set A (some (.obj [.int .i64 0]))).set B (some (.obj [.int .i64 0]))) A=some (.obj [.int .i64 0]):=by rw [ASt.set_ne hAB,ASt.set_same]
 have hB2:((base.set A (some (.obj [.int .i64 0]))).set B (some (.obj [.int .i64 0]))) B=some (.obj [.int .i64 0]):=ASt.set_same _ _ _
 have hsub:Sub base ((base.set A (some (.obj [.int .i64 0]))).set B (some (.obj [.int .i64 0]))):=((Sub.refl base).set bA).set bB
 simp (disch:=first|assumption|omega|(simp only [List.length_append,List.length_cons,List.length_nil];omega)) only [go_sem]
 rw [set4]
 generalize (base.set A (some (.obj [.int .i64 0]))).set B (some (.obj [.int .i64 0]))=base2 at *
 generalize (σ.set A (some (.obj [.int .i64 0]))).set B (some (.obj [.int .i64 0]))=σ2 at *
 have hh2:=h2.at (hsub _ _ hh)
 have hw:=hpwith_ok (K:=fun r base' s'=>r = .int .i64 0/\s'=s/\base' A=some (.obj [.int .i64 cur])/\base' B=some (.obj [.int .i64 cnt])/\Sub base base') (cap := [.ptr A 0,.ptr B 0]) h2 hq hok (fun fa xa c dirty σ1 hxa hck hc hp=>by
  have hAx:A≠xa:=fun e=>by rw [<-e,hA2] at hxa;cases hxa
  have hBx:B≠xa:=fun e=>by rw [<-e,hB2] at hxa;cases hxa
  have bx:base xa=none:=by
   cases hc:base xa with
   | none=>rfl
   | some r=>rw [hsub _ _ hc] at hxa;cases hxa
  refine (hpstate1_ok (A:=A) (B:=B) hp (ASt.set_same _ _ _) hc (by rw [ASt.set_ne hAx];exact hA2) (by rw [ASt.set_ne hBx];exact hB2) hAB kA kB hl hs1 hs2 hs4 hs3).mono ?_
  rintro r σ3 ⟨rfl,h3⟩
  refine ⟨_,s,dirty,h3,by rw [ASt.set_ne (Ne.symm hBx),ASt.set_ne (Ne.symm hAx),ASt.set_same],hl,.inr hq,⟨0,rfl⟩,rfl,rfl,?_,?_,?_⟩
  ·rw [ASt.set_ne hAx,ASt.set_ne hAB,ASt.set_same]
  ·rw [ASt.set_ne hBx,ASt.set_same]
  ·exact (((hsub.set bx).set bA).set bB).set bx)
 simp (disch:=first|assumption|omega|(simp only [List.length_append,List.length_cons,List.length_nil];omega)) only [go_sem,hh2]
 refine hw.mono ?_
 rintro r σ3 ⟨base3,s3,⟨rfl,rfl,g1,g2,g3⟩,h3⟩
 have hps:pset pg root (some s3)=pg:=by
  funext x
  unfold pset
  split
  ·rename_i e;rw [e,hq]
  ·rfl
 rw [hps] at h3
 have k1:=h3.at g1
 have k2:=h3.at g2
 simp (disch:=first|assumption|omega|(simp only [List.length_append,List.length_cons,List.length_nil];omega)) only [go_sem,k1,k2]
 exact retC_by (.refl _) (.refl _) ⟨⟨cnt,hs3,rfl⟩,h3.sub g3 hcb⟩
end
end Go.A
namespace Go.A
open Go.Proofs
/-! 51: (*tabular/heap.Heap).setState -/
def c51_3:ACode := .seq (.ops [ oe 4 (.box (.t 1)),oe 5 (.box (.t 2)),oq 6 (.mv (.v (.int .i64 0)))]) (.seq (.ops [ oq 7 (.mv (.t 0)),oq 8 (.nc (.t 7)),oq 9 (.fa 0 (.t 8)),oq 10 (.ld none (.t 9)),oq 11 (.mv (.t 0)),oq 12 (.nc (.t 11)),oq 13 (.fa 1 (.t 12)),oq 14 (.ld none (.t 13)),oq 15 (.mkf (.func 110) [] [(.t 4),(.t 5)]),oe 16 (.call 46 [(.t 10),(.t 14),(.t 15)]),oq 6 (.mv (.t 16))]) .ret)
@[go_sem] def c51_3_wp:=wp_of c51_3.eq_1
def c51:AFn:=⟨17,[.t 6],c51_3⟩
theorem c51_ok:compF Tryz.prog Tryz.f51=some c51:=by kernel_rfl
theorem a51 {args:List AV} {σ:ASt} {R:AV->ASt->Prop} (hl:args.length<=17) (h:c51_3.wp Tryz.prog (RetQ [.t 6] R) (init args) σ):ACalls Tryz.prog 51 args σ R:=acalls_of Tryz.func51 c51_ok hl h
/-! 61: (*tabular/heap.Heap).add -/
def c61_7:ACode := .seq (.ops [ oe 5 (.box (.t 2)),oq 6 (.mv (.v (.int .i64 0))),oq 7 (.mv (.v (.bool false))),oq 8 (.mv (.v (.int .i64 0)))]) (.seq (.ops [ oe 9 (.alloc [(.int .i64 0)]),oe 10 (.alloc [(.bool false)]),oz (.store 1 (.t 9) (.v (.int .i64 0))),oz (.store 1 (.t 10) (.v (.bool false)))]) (.seq (.ops [ oq 12 (.mv (.t 0)),oq 13 (.nc (.t 12)),oq 14 (.fa 0 (.t 13)),oq 15 (.ld none (.t 14)),oq 16 (.mv (.t 1)),oq 17 (.mkf (.func 122) [] [(.t 5),(.t 9),(.t 10)]),oe 18 (.call 46 [(.t 15),(.t 16),(.t 17)]),oq 11 (.mv (.t 18))]) (.seq (.ops [ oq 19 (.ld none (.t 9)),oq 20 (.ld none (.t 10)),oq 21 (.mv (.t 11)),oq 6 (.mv (.t 19)),oq 7 (.mv (.t 20)),oq 8 (.mv (.t 21))]) .ret)))
@[go_sem] def c61_7_wp:=wp_of c61_7.eq_1
def c61:AFn:=⟨22,[.t 6,.t 7,.t 8],c61_7⟩
theorem c61_ok:compF Tryz.prog Tryz.f61=some c61:=by kernel_rfl
theorem a61 {args:List AV} {σ:ASt} {R:AV->ASt->Prop} (hl:args.length<=22) (h:c61_7.wp Tryz.prog (RetQ [.t 6,.t 7,.t 8] R) (init args) σ):ACalls Tryz.prog 61 args σ R:=acalls_of Tryz.func61 c61_ok hl h
/-! 110: (*tabular/heap.Heap).setState$1 -/
def c110_7:ACode := .seq (.ops [ oq 4 (.mv (.v (.int .i64 0)))]) (.seq (.ops [ oq 5 (.mv (.t 0)),oq 7 (.ld none (.t 1)),⟨some 6,none,.e (.call 34 [(.t 5)]),[⟨none,.ld none (.t 1),7⟩]⟩,oe 8 (.call 111 [(.t 6),(.t 7)])]) (.seq (.ops [ oq 9 (.mv (.t 0)),oq 12 (.ld none (.t 2)),⟨some 10,none,.e (.call 34 [(.t 9)]),[⟨none,.ld none (.t 2),12⟩]⟩,oq 11 (.slfrom (false,1) (.t 10) (.v (.int .i64 4))),oe 13 (.call 111 [(.t 11),(.t 12)])]) (.seq (.ops [ oq 4 (.mv (.v (.int .i64 0)))]) .ret)))
@[go_sem] def c110_7_wp:=wp_of c110_7.eq_1
def c110:AFn:=⟨14,[.t 4],c110_7⟩
theorem c110_ok:compF Tryz.prog Tryz.f110=some c110:=by kernel_rfl
theorem a110 {args:List AV} {σ:ASt} {R:AV->ASt->Prop} (hl:args.length<=14) (h:c110_7.wp Tryz.prog (RetQ [.t 4] R) (init args) σ):ACalls Tryz.prog 110 args σ R:=acalls_of Tryz.func110 c110_ok hl h
/-! 122: (*tabular/heap.Heap).add$1 -/
def c122_8:ACode := .seq (.ops [ oq 5 (.mv (.v (.int .i64 0)))]) (.seq (.seq (.ops [ oq 6 (.ld none (.t 1)),oq 7 (.lenS (.t 6)),oq 8 (.mv (.t 0)),⟨some 9,none,.e (.call 50 [(.t 8)]),[⟨none,.ld none (.t 1),6⟩]⟩,⟨some 10,none,.e (.call 123 [(.t 9)]),[⟨none,.ld none (.t 1),6⟩]⟩,oq 11 (.bin .leq (.t 7) (.t 10))]) (.cond (.t 11) (.ops [ oq 13 (.mv (.t 0)),oq 15 (.ld none (.t 1)),⟨some 14,none,.e (.call 34 [(.t 13)]),[⟨none,.ld none (.t 1),15⟩]⟩,oe 16 (.call 63 [(.t 14),(.t 15)]),oq 12 (.mv (.t 16)),oq 17 (.ext 0 (.t 12)),oq 18 (.ext 1 (.t 12)),oz (.store 1 (.t 2) (.t 17)),oz (.store 1 (.t 3) (.t 18))]) .skip)) (.seq (.ops [ oq 5 (.mv (.v (.int .i64 0)))]) .ret))
@[go_sem] def c122_8_wp:=wp_of c122_8.eq_1
def c122:AFn:=⟨19,[.t 5],c122_8⟩
theorem c122_ok:compF Tryz.prog Tryz.f122=some c122:=by kernel_rfl
theorem a122 {args:List AV} {σ:ASt} {R:AV->ASt->Prop} (hl:args.length<=19) (h:c122_8.wp Tryz.prog (RetQ [.t 5] R) (init args) σ):ACalls Tryz.prog 122 args σ R:=acalls_of Tryz.func122 c122_ok hl h
end Go.A
namespace Go.A
open Go.Proofs
section
variable {base base' σ:ASt} {p n q page fa xa c:Nat} {m:PX} {pg:Pgs} {ed dirty:Bool} {s b:List UInt8} {R:Rcs}
theorem wrapU32 (z:Int):∃ v:Nat,v<4294967296/\IntKind.wrap .u32 z=(v:Int):=⟨(z % 4294967296).toNat,by omega,by rw [IntKind.wrap_u32];omega⟩
theorem RootP.set {cur v:Nat} (hl:s.length=504) (hc:cur<60000) (hv:v<4294967296):RootP (spl (spl s 0 (le32 cur)) 4 (le32 v)) cur:=by
 have l1:(spl s 0 (le32 cur)).length=504:=by rw [spl_len (by rw [le32_len];omega),hl]
 refine ⟨by rw [spl_len (by rw [le32_len];omega),l1],?_,hc,v,hv,?_⟩
 ·rw [bat_else (by rw [le32_len];omega) (by omega)]
  exact bat_same (by rw [le32_len];omega)
 ·exact bat_same (by rw [le32_len];omega)
theorem pset_twice (pg:Pgs) (q:Nat) (u v:Option (List UInt8)):pset (pset pg q u) q v=pset pg q v:=by
 funext x
 unfold pset
 split<;>rfl
theorem hpsetstate1_ok {A B cur:Nat} {z:Int} (h:PinAt base σ p m n pg page fa xa c dirty) (hx:base xa=some (.obj (bytesAV s))) (hd:dirty=true\/pg page=some s) (hc:504<=c) (hk:xa≠0) (hA:base A=some (.obj [.int .i64 cur])) (hB:base B=some (.obj [.int .i64 z]))
  (hl:s.length=504) (hcur:cur<60000) :
  ACalls Tryz.prog 110 [.ptr fa 0,.ptr A 0,.ptr B 0] σ fun r σ'=>r = .int .i64 0/\∃ s',RootP s' cur/\PinAt (base.set xa (some (.obj (bytesAV s')))) σ' p m n pg page fa xa c true:=by
 obtain ⟨v,hv,hwv⟩:=wrapU32 z
 have hwc:IntKind.wrap .u32 (cur:Int)=(cur:Int):=by rw [IntKind.wrap_u32];omega
 have hAx:A≠xa:=fun e=>by
  subst e
  rw [hx] at hA
  have:=congrArg List.length (Role.obj.inj (Option.some.inj hA))
  rw [kbytes_len,hl] at this
  simp at this
 have hBx:B≠xa:=fun e=>by
  subst e
  rw [hx] at hB
  have:=congrArg List.length (Role.obj.inj (Option.some.inj hB))
  rw [kbytes_len,hl] at this
  simp at this
 have s4:slV (false,1) (.msl xa 0 504 c) 4 504=some (.msl xa 4 (504-4) (c-4)):=slV_page (o:=4) (by omega) hc
 have l1:(spl s 0 (le32 cur)).length=504:=by rw [spl_len (by rw [le32_len];omega),hl]
 have hR:RootP (spl (spl s 0 (le32 cur)) 4 (le32 v)) cur:=RootP.set hl hcur hv
 have hA0:=h.at hA
 refine a110 (by simp) ?_
 simp (disch:=first|assumption|omega|(simp only [List.length_append,List.length_cons,List.length_nil];omega)) only [go_sem,hA0]
 refine (pledit_ok h hx hl hd).mono ?_
 rintro r σ1 ⟨rfl,h1⟩
 have hA1:=h1.at hA
 have w1:=hpsetword_ok (c:=c) (o:=0) (k:=504) (z:=(cur:Int)) (v:=cur) (h1.at hx) (by omega) (by omega) hwc (by omega)
 simp (disch:=first|assumption|omega|(simp only [List.length_append,List.length_cons,List.length_nil];omega)) only [go_sem,hA1]
 refine w1.mono ?_
 rintro r σ2 ⟨rfl,rfl⟩
 have h2:=h1.set (x:=xa) (some (.obj (bytesAV (spl s 0 (le32 cur))))) (.inl (by rw [hx];simp)) hk
 have hB2:=h2.at ((ASt.set_ne hBx).trans hB)
 simp (disch:=first|assumption|omega|(simp only [List.length_append,List.length_cons,List.length_nil];omega)) only [go_sem,hB2]
 refine (pledit_ok h2 (ASt.set_same _ _ _) l1 (.inl rfl)).mono ?_
 rintro r σ3 ⟨rfl,h3⟩
 have hB3:=h3.at ((ASt.set_ne hBx).trans hB)
 have w2:=hpsetword_ok (c:=c-4) (o:=4) (k:=504-4) (z:=z) (v:=v) (h3.at (ASt.set_same base xa (some (.obj (bytesAV (spl s 0 (le32 cur))))))) (by omega) (by omega) hwv hv
 simp (disch:=first|assumption|omega|(simp only [List.length_append,List.length_cons,List.length_nil];omega)) only [go_sem,s4,hB3]
 refine w2.mono ?_
 rintro r σ4 ⟨rfl,rfl⟩
 have h4:=h3.set (x:=xa) (some (.obj (bytesAV (spl (spl s 0 (le32 cur)) 4 (le32 v))))) (.inl (by rw [ASt.set_same];simp)) hk
 rw [ASt.set_set] at h4
 simp (disch:=first|assumption|omega|(simp only [List.length_append,List.length_cons,List.length_nil];omega)) only [go_sem]
 exact retC_by (.refl _) (.refl _) ⟨rfl,_,hR,h4⟩
theorem hpsetstate_ok {hb root cur:Nat} {z:Int} (h:PoolAt base σ p m n pg) (hh:base hb=some (.obj [.ptr p 0,.int .i64 root])) (hq:pg root=some s) (hcur:cur<60000) :
  ACalls Tryz.prog 51 [.ptr hb 0,.int .i64 cur,.int .i64 z] σ fun r σ'=>r = .int .i64 0/\∃ s',RootP s' cur/\PoolAt base σ' p m n (pset pg root (some s')):=by
 have hl:=h.slen hq
 have hhs:=h.at hh
 have hok:okFn Tryz.prog 110=true:=by kernel_rfl
 have hcb:=h.ck
 refine a51 (by simp) ?_
 simp (disch:=first|assumption|omega|(simp only [List.length_append,List.length_cons,List.length_nil];omega)) only [go_sem]
 refine boxC_by rfl fun A hA=>?_
 simp (disch:=first|assumption|omega|(simp only [List.length_append,List.length_cons,List.length_nil];omega)) only [go_sem]
 refine boxC_by rfl fun B hB=>?_
 have hAB:A≠B:=fun e=>by rw [e,ASt.set_same] at hB;cases hB
 obtain ⟨bA,kA⟩:=h.away hA
 have h1:=h.box hA (.obj [.int .i64 cur])
 obtain ⟨bB,kB⟩:=h1.away hB
 rw [ASt.set_ne (Ne.symm hAB)] at bB
 have h2:=h1.box hB (.obj [.int .i64 z])
 have hA2:((base.set A (some (.obj [.int .i64 cur]))).set B (some (.obj [.int .i64 z]))) A=some (.obj [.int .i64 cur]):=by rw [ASt.set_ne hAB,ASt.set_same]
 have hB2:((base.set A (some (.obj [.int .i64 cur]))).set B (some (.obj [.int .i64 z]))) B=some (.obj [.int .i64 z]):=ASt.set_same _ _ _
 have hsub:Sub base ((base.set A (some (.obj [.int .i64 cur]))).set B (some (.obj [.int .i64 z]))):=((Sub.refl base).set bA).set bB
 have hcA:(AV.int .i64 (cur:Int)).cells = [.int .i64 cur]:=rfl
 have hcB:(AV.int .i64 z).cells = [.int .i64 z]:=rfl
 rw [hcB]
 generalize (base.set A (some (.obj [.int .i64 cur]))).set B (some (.obj [.int .i64 z]))=base2 at *
 generalize (σ.set A (some (.obj [.int .i64 cur]))).set B (some (.obj [.int .i64 z]))=σ2 at *
 have hh2:=h2.at (hsub _ _ hh)
 have hw:=hpwith_ok (K:=fun r base' s'=>r = .int .i64 0/\RootP s' cur/\Sub base base') (cap := [.ptr A 0,.ptr B 0]) h2 hq hok (fun fa xa c dirty σ1 hxa hck hc hp=>by
  have hAx:A≠xa:=fun e=>by rw [<-e,hA2] at hxa;cases hxa
  have hBx:B≠xa:=fun e=>by rw [<-e,hB2] at hxa;cases hxa
  have bx:base xa=none:=by
   cases hc:base xa with
   | none=>rfl
   | some r=>rw [hsub _ _ hc] at hxa;cases hxa
  refine (hpsetstate1_ok (A:=A) (B:=B) hp (ASt.set_same _ _ _) (.inr hq) hc hck (by rw [ASt.set_ne hAx];exact hA2) (by rw [ASt.set_ne hBx];exact hB2) hl hcur).mono ?_
  rintro r σ3 ⟨rfl,s',g1,h3⟩
  rw [ASt.set_set] at h3
  exact ⟨_,s',true,h3,ASt.set_same _ _ _,g1.1,.inl rfl,⟨0,rfl⟩,rfl,g1,(hsub.set bx).set bx⟩)
 simp (disch:=first|assumption|omega|(simp only [List.length_append,List.length_cons,List.length_nil];omega)) only [go_sem,hh2]
 refine hw.mono ?_
 rintro r σ3 ⟨base3,s3,⟨rfl,g1,g3⟩,h3⟩
 simp (disch:=first|assumption|omega|(simp only [List.length_append,List.length_cons,List.length_nil];omega)) only [go_sem]
 exact retC_by (.refl _) (.refl _) ⟨rfl,s3,g1,h3.sub g3 hcb⟩
theorem hpadd1_ok {C A B:Nat} {rec:List UInt8} (h:PinAt base σ p m n pg page fa xa c dirty) (hx:base xa=some (.obj (bytesAV b))) (hd:dirty=true\/pg page=some b) (hc:504<=c) (hk:xa≠0) (hC:base C=some (.obj [.str rec])) (hA:base A=some (.obj [.int .i64 0])) (hB:base B=some (.obj [.bool false]))
  (hAB:A≠B) (kA:A≠0) (kB:B≠0) (xC:xa≠C) (xA:xa≠A) (xB:xa≠B) (hP:SP b R) (hrec:rec ≠ []) (hrl:rec.length<=504) :
  ACalls Tryz.prog 122 [.ptr fa 0,.ptr C 0,.ptr A 0,.ptr B 0] σ fun r σ'=>r = .int .i64 0 ∧
   ((∃ i b' R',i<=124/\getR R i=none/\SP b' R'/\(∀ j,getR R' j=if j=i then some rec else getR R j)/\PinAt (((base.set xa (some (.obj (bytesAV b')))).set A (some (.obj [.int .i64 ((i:Nat):Int)]))).set B (some (.obj [.bool true]))) σ' p m n pg page fa xa c true)\/PinAt base σ' p m n pg page fa xa c dirty):=by
 have hX:=h.at hx
 have hCs:=h.at hC
 have hb:=plbytes_ok h
 have hrm:=slroom_ok (c:=c) hX hP.toSW
 by_cases hroom:(rec.length:Int)<=roomR R
 ·refine a122 (by simp) ?_
  simp (disch:=first|assumption|omega|(simp only [List.length_append,List.length_cons,List.length_nil];omega)) only [go_sem,hCs]
  refine hb.mono ?_
  rintro v σ1 ⟨rfl,rfl⟩
  simp (disch:=first|assumption|omega|(simp only [List.length_append,List.length_cons,List.length_nil];omega)) only [go_sem,hCs]
  refine hrm.mono ?_
  rintro v σ1 ⟨rfl,rfl⟩
  simp (disch:=first|assumption|omega|(simp only [List.length_append,List.length_cons,List.length_nil];omega)) only [go_sem,hCs,hroom]
  refine (pledit_ok h hx hP.hl hd).mono ?_
  rintro v σ2 ⟨rfl,h2⟩
  have hC2:=h2.at hC
  have had:=sladd_ok (c:=c) (h2.at hx) hP hc hrec hroom
  simp (disch:=first|assumption|omega|(simp only [List.length_append,List.length_cons,List.length_nil];omega)) only [go_sem,hC2]
  refine had.mono ?_
  rintro v σ3 ⟨i,b',R',rfl,g1,g2,g3,g4,rfl⟩
  have h3:=h2.set (x:=xa) (some (.obj (bytesAV b'))) (.inl (by rw [hx];simp)) hk
  have hA3:(base.set xa (some (.obj (bytesAV b')))) A=some (.obj [.int .i64 0]):=by rw [ASt.set_ne (Ne.symm xA)];exact hA
  have hB3:(base.set xa (some (.obj (bytesAV b')))) B=some (.obj [.bool false]):=by rw [ASt.set_ne (Ne.symm xB)];exact hB
  have kA3:=h3.at hA3
  have kB3:=h3.at hB3
  have h4:=h3.set (x:=A) (some (.obj [.int .i64 i])) (.inl (by rw [hA3];simp)) kA
  have h5:=h4.set (x:=B) (some (.obj [.bool true])) (.inl (by rw [ASt.set_ne (Ne.symm hAB),hB3];simp)) kB
  have hBA:=Ne.symm hAB
  obtain ⟨σ4,hσ4⟩:∃ τ,τ=σ2.set xa (some (.obj (bytesAV b'))):=⟨_,rfl⟩
  rw [<-hσ4] at kA3 kB3 h5 ⊢
  simp (disch:=first|assumption|omega|(simp only [List.length_append,List.length_cons,List.length_nil];omega)) only [go_sem,kA3,kB3]
  exact retC_by (.refl _) (.refl _) ⟨rfl,.inl ⟨i,b',R',g1,g2,g3,g4,h5⟩⟩
 ·refine a122 (by simp) ?_
  simp (disch:=first|assumption|omega|(simp only [List.length_append,List.length_cons,List.length_nil];omega)) only [go_sem,hCs]
  refine hb.mono ?_
  rintro v σ1 ⟨rfl,rfl⟩
  simp (disch:=first|assumption|omega|(simp only [List.length_append,List.length_cons,List.length_nil];omega)) only [go_sem,hCs]
  refine hrm.mono ?_
  rintro v σ1 ⟨rfl,rfl⟩
  simp (disch:=first|assumption|omega|(simp only [List.length_append,List.length_cons,List.length_nil];omega)) only [go_sem,hCs,hroom]
  exact retC_by (.refl _) (.refl _) ⟨rfl,.inr h⟩
theorem hpadd_ok {hb root:Nat} {rec:List UInt8} (h:PoolAt base σ p m n pg) (hh:base hb=some (.obj [.ptr p 0,.int .i64 root])) (hq:pg q=some b) (hP:SP b R) (hrec:rec ≠ []) (hrl:rec.length<=504) :
  ACalls Tryz.prog 61 [.ptr hb 0,.int .i64 q,.str rec] σ fun r σ'=>
   (∃ i b' R',r = .tuple [.int .i64 ((i:Nat):Int),.bool true,.int .i64 0]/\i<=124/\getR R i=none/\SP b' R'/\(∀ j,getR R' j=if j=i then some rec else getR R j)/\PoolAt base σ' p m n (pset pg q (some b'))) ∨
   (r = .tuple [.int .i64 0,.bool false,.int .i64 0]/\PoolAt base σ' p m n pg):=by
 have hl:=h.slen hq
 have hhs:=h.at hh
 have hok:okFn Tryz.prog 122=true:=by kernel_rfl
 have hcb:=h.ck
 refine a61 (by simp) ?_
 simp (disch:=first|assumption|omega|(simp only [List.length_append,List.length_cons,List.length_nil];omega)) only [go_sem]
 refine boxC_by rfl fun C hC=>?_
 simp (disch:=first|assumption|omega|(simp only [List.length_append,List.length_cons,List.length_nil];omega)) only [go_sem]
 refine allocC_by fun A hA=>?_
 simp (disch:=first|assumption|omega|(simp only [List.length_append,List.length_cons,List.length_nil];omega)) only [go_sem]
 refine allocC_by fun B hB=>?_
 have hCA:A≠C:=fun e=>by rw [e,ASt.set_same] at hA;cases hA
 have hAB:A≠B:=fun e=>by rw [e,ASt.set_same] at hB;cases hB
 have hCB:B≠C:=fun e=>by rw [e,ASt.set_ne (Ne.symm hCA),ASt.set_same] at hB;cases hB
 obtain ⟨bC,kC⟩:=h.away hC
 have h1:=h.box hC (.obj [.str rec])
 obtain ⟨bA,kA⟩:=h1.away hA
 rw [ASt.set_ne hCA] at bA
 have h2:=h1.box hA (.obj [.int .i64 0])
 obtain ⟨bB,kB⟩:=h2.away hB
 rw [ASt.set_ne (Ne.symm hAB),ASt.set_ne hCB] at bB
 have h3:=h2.box hB (.obj [.bool false])
 have hsub:Sub base (((base.set C (some (.obj [.str rec]))).set A (some (.obj [.int .i64 0]))).set B (some (.obj [.bool false]))):=(((Sub.refl base).set bC).set bA).set bB
 have hC3:(((base.set C (some (.obj [.str rec]))).set A (some (.obj [.int .i64 0]))).set B (some (.obj [.bool false]))) C=some (.obj [.str rec]):=by rw [ASt.set_ne (Ne.symm hCB),ASt.set_ne (Ne.symm hCA),ASt.set_same]
 have hA3:(((base.set C (some (.obj [.str rec]))).set A (some (.obj [.int .i64 0]))).set B (some (.obj [.bool false]))) A=some (.obj [.int .i64 0]):=by rw [ASt.set_ne hAB,ASt.set_same]
 have hB3:(((base.set C (some (.obj [.str rec]))).set A (some (.obj [.int .i64 0]))).set B (some (.obj [.bool false]))) B=some (.obj [.bool false]):=ASt.set_same _ _ _
 simp (disch:=first|assumption|omega|(simp only [List.length_append,List.length_cons,List.length_nil];omega)) only [go_sem]
 rw [set4]
 generalize ((base.set C (some (.obj [.str rec]))).set A (some (.obj [.int .i64 0]))).set B (some (.obj [.bool false]))=base2 at *
 generalize ((σ.set C (some (.obj [.str rec]))).set A (some (.obj [.int .i64 0]))).set B (some (.obj [.bool false]))=σ2 at *
 have hh2:=h3.at (hsub _ _ hh)
 have hw:=hpwith_ok (K:=fun r base' s'=>r = .int .i64 0/\Sub base base' ∧
   ((∃ i R',i<=124/\getR R i=none/\SP s' R'/\(∀ j,getR R' j=if j=i then some rec else getR R j)/\base' A=some (.obj [.int .i64 ((i:Nat):Int)])/\base' B=some (.obj [.bool true]))\/(s'=b/\base' A=some (.obj [.int .i64 0])/\base' B=some (.obj [.bool false])))) (cap := [.ptr C 0,.ptr A 0,.ptr B 0]) h3 hq hok (fun fa xa c dirty σ1 hxa hck hc hp=>by
  have hCx:C≠xa:=fun e=>by rw [<-e,hC3] at hxa;cases hxa
  have hAx:A≠xa:=fun e=>by rw [<-e,hA3] at hxa;cases hxa
  have hBx:B≠xa:=fun e=>by rw [<-e,hB3] at hxa;cases hxa
  have bx:base xa=none:=by
   cases hc:base xa with
   | none=>rfl
   | some r=>rw [hsub _ _ hc] at hxa;cases hxa
  refine (hpadd1_ok (C:=C) (A:=A) (B:=B) hp (ASt.set_same _ _ _) (.inr hq) hc hck (by rw [ASt.set_ne hCx];exact hC3) (by rw [ASt.set_ne hAx];exact hA3) (by rw [ASt.set_ne hBx];exact hB3) hAB kA kB (Ne.symm hCx) (Ne.symm hAx) (Ne.symm hBx) hP hrec hrl).mono ?_
  rintro r σ4 ⟨rfl,⟨i,b',R',g1,g2,g3,g4,h5⟩|h5⟩
  ·rw [ASt.set_set] at h5
   refine ⟨_,b',true,h5,by rw [ASt.set_ne (Ne.symm hBx),ASt.set_ne (Ne.symm hAx),ASt.set_same],g3.hl,.inl rfl,⟨0,rfl⟩,rfl,(((hsub.set bx).set bA).set bB).set bx,.inl ⟨i,R',g1,g2,g3,g4,?_,?_⟩⟩
   ·rw [ASt.set_ne hAx,ASt.set_ne hAB,ASt.set_same]
   ·rw [ASt.set_ne hBx,ASt.set_same]
  ·refine ⟨_,b,dirty,h5,ASt.set_same _ _ _,hl,.inr hq,⟨0,rfl⟩,rfl,(hsub.set bx).set bx,.inr ⟨rfl,?_,?_⟩⟩
   ·rw [ASt.set_ne hAx,ASt.set_ne hAx];exact hA3
   ·rw [ASt.set_ne hBx,ASt.set_ne hBx];exact hB3)
 simp (disch:=first|assumption|omega|(simp only [List.length_append,List.length_cons,List.length_nil];omega)) only [go_sem,hh2]
 refine hw.mono ?_
 rintro r σ4 ⟨base3,s3,⟨rfl,g0,⟨i,R',g1,g2,g3,g4,g5,g6⟩|⟨rfl,g5,g6⟩⟩,h4⟩
 ·have k1:=h4.at g5
  have k2:=h4.at g6
  simp (disch:=first|assumption|omega|(simp only [List.length_append,List.length_cons,List.length_nil];omega)) only [go_sem,k1,k2]
  exact retC_by (.refl _) (.refl _) (.inl ⟨i,s3,R',rfl,g1,g2,g3,g4,h4.sub g0 hcb⟩)
 ·have k1:=h4.at g5
  have k2:=h4.at g6
  rw [pset_id hq] at h4
  simp (disch:=first|assumption|omega|(simp only [List.length_append,List.length_cons,List.length_nil];omega)) only [go_sem,k1,k2]
  exact retC_by (.refl _) (.refl _) (.inr ⟨rfl,h4.sub g0 hcb⟩)
end
end Go.A
namespace Go.A
open Go.Proofs
/-! 7: tabular/heap.New -/
def c7_12:ACode := .seq (.ops [ oq 2 (.mv (.v .nilp)),oq 3 (.mv (.v (.int .i64 0)))]) (.seq (.ops [ oq 7 (.mv (.t 0)),oe 8 (.call 30 [(.t 7)]),oq 6 (.mv (.t 8)),oq 9 (.ext 0 (.t 6)),oq 10 (.ext 1 (.t 6)),oq 4 (.mv (.t 9)),oq 5 (.mv (.t 10))]) (.seq (.seq (.ops [ oq 11 (.mv (.t 5)),oq 12 (.bin .neq (.t 11) (.v (.int .i64 0)))]) (.cond (.t 12) (.seq (.ops [ oq 13 (.mv (.t 5)),oq 2 (.mv (.v .nilp)),oq 3 (.mv (.t 13))]) .ret) .skip)) (.dfr 31 (.t 4) 14 (.seq (.ops [ oq 15 (.mv (.t 0)),oq 16 (.mv (.t 4)),oe 17 (.call 32 [(.t 16)]),oq 18 (.build [.nilp,(.int .i64 0)] [(0,1,(.t 15)),(1,1,(.t 17))]),oe 19 (.box (.t 18)),oq 2 (.mv (.t 19)),oq 3 (.mv (.v (.int .i64 0)))]) .ret))))
@[go_sem] def c7_12_wp:=wp_of c7_12.eq_1
def c7:AFn:=⟨20,[.t 2,.t 3],c7_12⟩
theorem c7_ok:compF Tryz.prog Tryz.f7=some c7:=by kernel_rfl
theorem a7 {args:List AV} {σ:ASt} {R:AV->ASt->Prop} (hl:args.length<=20) (h:c7_12.wp Tryz.prog (RetQ [.t 2,.t 3] R) (init args) σ):ACalls Tryz.prog 7 args σ R:=acalls_of Tryz.func7 c7_ok hl h
/-! 23: (*tabular/heap.Heap).Get -/
def c23_33:ACode := .seq (.ops [ oq 4 (.mv (.v (.str []))),oq 5 (.mv (.v (.int .i64 0)))]) (.seq (.ops [ oq 10 (.mv (.t 0)),oq 11 (.mv (.t 1)),oe 12 (.call 41 [(.t 10),(.t 11)]),oq 9 (.mv (.t 12)),oq 13 (.ext 0 (.t 9)),oq 14 (.ext 1 (.t 9)),oq 6 (.mv (.t 13)),oq 7 (.mv (.t 14))]) (.seq (.seq (.ops [ oq 15 (.mv (.t 7)),oq 16 (.bin .neq (.t 15) (.v (.int .i64 0)))]) (.cond (.t 16) (.seq (.ops [ oq 17 (.mv (.t 7)),oq 4 (.mv (.v (.str []))),oq 5 (.mv (.t 17))]) .ret) .skip)) (.seq (.block 0 (.seq (.ops [ oq 19 (.mv (.t 6)),oq 20 (.idx (.t 19) (.v (.int .i64 0))),oq 21 (.bin .eql (.t 20) (.v (.int .u8 0))),oq 18 (.mv (.t 21))]) (.cond (.t 18) (.seq (.ops [ oq 22 (.mv (.t 6)),oq 23 (.slfrom (true,0) (.t 22) (.v (.int .i64 1))),oq 4 (.mv (.t 23)),oq 5 (.mv (.v (.int .i64 0)))]) .ret) (.seq (.ops [ oq 25 (.mv (.t 6)),oq 26 (.idx (.t 25) (.v (.int .i64 0))),oq 27 (.bin .neq (.t 26) (.v (.int .u8 1))),oq 24 (.mv (.t 27))]) (.cond (.t 24) (.seq (.ops [ oq 4 (.mv (.v (.str []))),oq 5 (.mv (.v (.int .i64 3)))]) .ret) .skip))))) (.seq (.ops [ oe 8 (.alloc [(.sl .full [])])]) (.seq (.ops [ oq 28 (.mv (.t 0)),oq 29 (.mv (.t 6)),oq 30 (.mkf (.func 74) [] [(.t 8)]),oe 31 (.call 42 [(.t 28),(.t 29),(.t 30)]),oq 7 (.mv (.t 31))]) (.seq (.seq (.ops [ oq 32 (.mv (.t 7)),oq 33 (.bin .neq (.t 32) (.v (.int .i64 0)))]) (.cond (.t 33) (.seq (.ops [ oq 34 (.mv (.t 7)),oq 4 (.mv (.v (.str []))),oq 5 (.mv (.t 34))]) .ret) .skip)) (.seq (.ops [ oq 35 (.ld none (.t 8)),oq 36 (.b2s (.t 35)),oq 4 (.mv (.t 36)),oq 5 (.mv (.v (.int .i64 0)))]) .ret)))))))
@[go_sem] def c23_33_wp:=wp_of c23_33.eq_1
def c23:AFn:=⟨37,[.t 4,.t 5],c23_33⟩
theorem c23_ok:compF Tryz.prog Tryz.f23=some c23:=by kernel_rfl
theorem a23 {args:List AV} {σ:ASt} {R:AV->ASt->Prop} (hl:args.length<=37) (h:c23_33.wp Tryz.prog (RetQ [.t 4,.t 5] R) (init args) σ):ACalls Tryz.prog 23 args σ R:=acalls_of Tryz.func23 c23_ok hl h
/-! 41: (*tabular/heap.Heap).find -/
def c41_13:ACode := .seq (.ops [ oe 3 (.box (.t 1)),oq 4 (.mv (.v (.str []))),oq 5 (.mv (.v (.int .i64 0)))]) (.seq (.ops [ oe 6 (.alloc [(.str [])]),oz (.store 1 (.t 6) (.v (.str [])))]) (.seq (.seq (.ops [ oq 8 (.ld none (.t 3)),oq 9 (.bin .shr (.t 8) (.v (.int .u64 8))),oq 10 (.bin .lss (.t 9) (.v (.int .u64 1))),oq 11 (.mv (.t 10)),⟨some 12,some (11,false),.q (.ld none (.t 3)),[]⟩,⟨some 13,some (11,false),.q (.bin .shr (.t 12) (.v (.int .u64 8))),[]⟩,⟨some 14,some (11,false),.q (.bin .gtr (.t 13) (.v (.int .u64 60000))),[]⟩,oq 15 (.pick (.t 11) (.v (.bool true)) (.t 14))]) (.cond (.t 15) (.seq (.ops [ oq 4 (.mv (.v (.str []))),oq 5 (.mv (.v (.int .i64 4)))]) .ret) .skip)) (.seq (.ops [ oq 16 (.mv (.t 0)),oq 17 (.nc (.t 16)),oq 18 (.fa 0 (.t 17)),oq 19 (.ld none (.t 18)),oq 20 (.ld none (.t 3)),oq 21 (.bin .shr (.t 20) (.v (.int .u64 8))),oq 22 (.conv .i64 (.t 21)),oq 23 (.mkf (.func 95) [] [(.t 3),(.t 6)]),oe 24 (.call 46 [(.t 19),(.t 22),(.t 23)]),oq 7 (.mv (.t 24))]) (.seq (.ops [ oq 25 (.ld none (.t 6)),oq 26 (.mv (.t 7)),oq 4 (.mv (.t 25)),oq 5 (.mv (.t 26))]) .ret))))
@[go_sem] def c41_13_wp:=wp_of c41_13.eq_1
def c41:AFn:=⟨27,[.t 4,.t 5],c41_13⟩
theorem c41_ok:compF Tryz.prog Tryz.f41=some c41:=by kernel_rfl
theorem a41 {args:List AV} {σ:ASt} {R:AV->ASt->Prop} (hl:args.length<=27) (h:c41_13.wp Tryz.prog (RetQ [.t 4,.t 5] R) (init args) σ):ACalls Tryz.prog 41 args σ R:=acalls_of Tryz.func41 c41_ok hl h
/-! 60: (*tabular/heap.Heap).record -/
def c60_25:ACode := .seq (.ops [ oq 4 (.mv (.v (.str []))),oq 5 (.mv (.v (.int .i64 0)))]) (.seq (.seq (.ops [ oq 9 (.mv (.t 1)),oq 10 (.lenS (.t 9)),oq 11 (.bin .leq (.t 10) (.v (.int .i64 300)))]) (.cond (.t 11) (.seq (.ops [ oq 12 (.bsl 1 [(.v (.int .u8 0))]),oq 13 (.b2s (.t 12)),oq 14 (.mv (.t 1)),oq 15 (.bin .add (.t 13) (.t 14)),oq 4 (.mv (.t 15)),oq 5 (.mv (.v (.int .i64 0)))]) .ret) .skip)) (.seq (.ops [ oq 17 (.mv (.t 0)),oq 18 (.mv (.t 1)),oe 19 (.call 121 [(.t 17),(.t 18)]),oq 16 (.mv (.t 19)),oq 20 (.ext 0 (.t 16)),oq 21 (.ext 1 (.t 16)),oq 6 (.mv (.t 20)),oq 7 (.mv (.t 21))]) (.seq (.seq (.ops [ oq 22 (.mv (.t 7)),oq 23 (.bin .neq (.t 22) (.v (.int .i64 0)))]) (.cond (.t 23) (.seq (.ops [ oq 24 (.mv (.t 7)),oq 4 (.mv (.v (.str []))),oq 5 (.mv (.t 24))]) .ret) .skip)) (.seq (.ops [ oe 25 (.mks 5 1 (.int .u8 0) (.v (.int .i64 9)) (.v (.int .i64 9))),oq 8 (.mv (.t 25))]) (.seq (.ops [ oq 26 (.mv (.t 8)),oq 27 (.ia 1 (.t 26) (.v (.int .i64 0))),oz (.store 1 (.t 27) (.v (.int .u8 1)))]) (.seq (.ops [ oq 28 (.mv (.t 8)),oq 29 (.slfrom (false,1) (.t 28) (.v (.int .i64 1))),oq 30 (.mv (.t 1)),oq 31 (.lenS (.t 30)),oe 32 (.call 111 [(.t 29),(.t 31)])]) (.seq (.ops [ oq 33 (.mv (.t 8)),oq 34 (.slfrom (false,1) (.t 33) (.v (.int .i64 5))),oq 35 (.mv (.t 6)),oe 36 (.call 111 [(.t 34),(.t 35)])]) (.seq (.ops [ oq 37 (.mv (.t 8)),oq 38 (.b2s (.t 37)),oq 4 (.mv (.t 38)),oq 5 (.mv (.v (.int .i64 0)))]) .ret))))))))
@[go_sem] def c60_25_wp:=wp_of c60_25.eq_1
def c60:AFn:=⟨39,[.t 4,.t 5],c60_25⟩
theorem c60_ok:compF Tryz.prog Tryz.f60=some c60:=by kernel_rfl
theorem a60 {args:List AV} {σ:ASt} {R:AV->ASt->Prop} (hl:args.length<=39) (h:c60_25.wp Tryz.prog (RetQ [.t 4,.t 5] R) (init args) σ):ACalls Tryz.prog 60 args σ R:=acalls_of Tryz.func60 c60_ok hl h
/-! 95: (*tabular/heap.Heap).find$1 -/
def c95_19:ACode := .seq (.ops [ oq 4 (.mv (.v (.int .i64 0)))]) (.seq (.seq (.ops [ oq 7 (.mv (.t 0)),oe 8 (.call 50 [(.t 7)]),oe 9 (.call 96 [(.t 8)]),oq 10 (.un .not (.t 9))]) (.cond (.t 10) (.seq (.ops [ oq 4 (.mv (.v (.int .i64 3)))]) .ret) .skip)) (.seq (.ops [ oq 12 (.mv (.t 0)),oq 14 (.ld none (.t 1)),oq 15 (.bin .and (.t 14) (.v (.int .u64 255))),oq 16 (.conv .i64 (.t 15)),⟨some 13,none,.e (.call 50 [(.t 12)]),[⟨none,.ld none (.t 1),14⟩]⟩,oe 17 (.call 97 [(.t 13),(.t 16)]),oq 11 (.mv (.t 17)),oq 18 (.ext 0 (.t 11)),oq 19 (.ext 1 (.t 11)),oq 5 (.mv (.t 18)),oq 6 (.mv (.t 19))]) (.seq (.seq (.ops [ oq 20 (.mv (.t 6)),oq 21 (.un .not (.t 20))]) (.cond (.t 21) (.seq (.ops [ oq 4 (.mv (.v (.int .i64 4)))]) .ret) .skip)) (.seq (.ops [ oq 22 (.mv (.t 5)),oz (.store 1 (.t 2) (.t 22))]) (.seq (.ops [ oq 4 (.mv (.v (.int .i64 0)))]) .ret)))))
@[go_sem] def c95_19_wp:=wp_of c95_19.eq_1
def c95:AFn:=⟨23,[.t 4],c95_19⟩
theorem c95_ok:compF Tryz.prog Tryz.f95=some c95:=by kernel_rfl
theorem a95 {args:List AV} {σ:ASt} {R:AV->ASt->Prop} (hl:args.length<=23) (h:c95_19.wp Tryz.prog (RetQ [.t 4] R) (init args) σ):ACalls Tryz.prog 95 args σ R:=acalls_of Tryz.func95 c95_ok hl h
end Go.A
namespace Go.A
open Go.Proofs
theorem and_u64 {x:Nat} (hx:x<18446744073709551616):binI .and .u64 (x:Int) 255=some (.int .u64 ((x % 256:Nat):Int)):=by
 have e1:(BitVec.ofInt 64 (x:Int) &&& BitVec.ofInt 64 255).toNat=x % 256:=by
  rw [BitVec.toNat_and,BitVec.toNat_ofInt,BitVec.toNat_ofInt]
  have h1:((x:Int) % ((2 ^ 64:Nat):Int)).toNat=x:=by omega
  have h2:((255:Int) % ((2 ^ 64:Nat):Int)).toNat=255:=by decide
  rw [h1,h2]
  exact Nat.and_two_pow_sub_one_eq_mod x 8
 show some (AV.int .u64 (IntKind.wrap .u64 _))=_
 rw [show ((BitVec.ofInt (IntKind.bits .u64) (x:Int) &&& BitVec.ofInt (IntKind.bits .u64) 255).toNat:Int)=((x % 256:Nat):Int) from congrArg Nat.cast e1]
 rw [wrap_u64 (by omega) (by omega)]
theorem or_u64 {x y:Nat} (hx:y<256) (hl:x*256<18446744073709551616):binI .or .u64 ((x*256:Nat):Int) (y:Int)=some (.int .u64 ((x*256+y:Nat):Int)):=by
 have e1:(BitVec.ofInt 64 ((x*256:Nat):Int) ||| BitVec.ofInt 64 (y:Int)).toNat=x*256+y:=by
  rw [BitVec.toNat_or,BitVec.toNat_ofInt,BitVec.toNat_ofInt]
  have h1:(((x*256:Nat):Int) % ((2 ^ 64:Nat):Int)).toNat=x*256:=by omega
  have h2:((y:Int) % ((2 ^ 64:Nat):Int)).toNat=y:=by omega
  rw [h1,h2,Nat.or_comm,or_add (k:=8) (by omega),Nat.add_comm]
 show some (AV.int .u64 (IntKind.wrap .u64 _))=_
 rw [show ((BitVec.ofInt (IntKind.bits .u64) ((x*256:Nat):Int) ||| BitVec.ofInt (IntKind.bits .u64) (y:Int)).toNat:Int)=((x*256+y:Nat):Int) from congrArg Nat.cast e1]
 rw [wrap_u64 (by omega) (by omega)]
section
variable {base base' σ:ASt} {p n q page fa xa c:Nat} {m:PX} {pg:Pgs} {ed dirty:Bool} {s b:List UInt8} {R:Rcs}
theorem hpfind1_ok {D E id i:Nat} (h:PinAt base σ p m n pg page fa xa c dirty) (hx:base xa=some (.obj (bytesAV b))) (hc:504<=c) (hD:base D=some (.obj [.int .u64 id])) (hE:base E=some (.obj [.str []])) (kE:E≠0) (hP:SP b R) (hid:id<18446744073709551616) (hi:id % 256=i) (hR:R[i]? = some (some s)) :
  ACalls Tryz.prog 95 [.ptr fa 0,.ptr D 0,.ptr E 0] σ fun r σ'=>r = .int .i64 0/\PinAt (base.set E (some (.obj [.str s]))) σ' p m n pg page fa xa c dirty:=by
 have hX:=h.at hx
 have hDs:=h.at hD
 have hEs:=h.at hE
 have hb:=plbytes_ok h
 have hg:=slgood_ok (c:=c) hX hP
 have hgt:=slget_ok (c:=c) (i:=i) hX hP.toSW hR hc
 have hand:=and_u64 hid
 rw [hi] at hand
 have wi:IntKind.wrap .i64 (i:Int)=i:=wrap_i64 (by omega) (by omega)
 have h2:=h.set (x:=E) (some (.obj [.str s])) (.inl (by rw [hE];simp)) kE
 refine a95 (by simp) ?_
 simp (disch:=first|assumption|omega|(simp only [List.length_append,List.length_cons,List.length_nil];omega)) only [go_sem]
 refine hb.mono ?_
 rintro v σ1 ⟨rfl,rfl⟩
 simp (disch:=first|assumption|omega|(simp only [List.length_append,List.length_cons,List.length_nil];omega)) only [go_sem]
 refine hg.mono ?_
 rintro v σ1 ⟨rfl,rfl⟩
 simp (disch:=first|assumption|omega|(simp only [List.length_append,List.length_cons,List.length_nil];omega)) only [go_sem,hDs,hand,wi]
 refine hb.mono ?_
 rintro v σ1 ⟨rfl,rfl⟩
 simp (disch:=first|assumption|omega|(simp only [List.length_append,List.length_cons,List.length_nil];omega)) only [go_sem,hDs,hand,wi]
 refine hgt.mono ?_
 rintro v σ1 ⟨rfl,rfl⟩
 simp (disch:=first|assumption|omega|(simp only [List.length_append,List.length_cons,List.length_nil];omega)) only [go_sem,hEs,hDs]
 exact retC_by (.refl _) (.refl _) ⟨rfl,h2⟩
theorem hpfind_ok {hb root id i:Nat} (h:PoolAt base σ p m n pg) (hh:base hb=some (.obj [.ptr p 0,.int .i64 root])) (hq:pg q=some b) (hP:SP b R) (hR:R[i]? = some (some s)) (hid:id=q*256+i) :
  ACalls Tryz.prog 41 [.ptr hb 0,.int .u64 id] σ fun r σ'=>r = .tuple [.str s,.int .i64 0]/\PoolAt base σ' p m n pg:=by
 have hl:=h.slen hq
 obtain ⟨hq1,hq2⟩:=h.rng hq
 have hi:=(List.getElem?_eq_some_iff.1 hR).1
 have hf:=hP.few
 have hhs:=h.at hh
 have hok:okFn Tryz.prog 95=true:=by kernel_rfl
 have hcb:=h.ck
 have e8:(8:Int).toNat=8:=rfl
 have bits:IntKind.bits .u64=64:=rfl
 have p8:(2:Int) ^ 8=256:=rfl
 have d8:(id:Int) / 256=(q:Int):=by omega
 have q1:¬ (q:Int)<1:=by omega
 have q2:¬ (60000:Int)<(q:Int):=by omega
 have wq:IntKind.wrap .i64 (q:Int)=q:=wrap_i64 (by omega) (by omega)
 refine a41 (by simp) ?_
 simp (disch:=first|assumption|omega|(simp only [List.length_append,List.length_cons,List.length_nil];omega)) only [go_sem]
 refine boxC_by rfl fun D hD=>?_
 simp (disch:=first|assumption|omega|(simp only [List.length_append,List.length_cons,List.length_nil];omega)) only [go_sem]
 refine allocC_by fun E hE=>?_
 have hDE:D≠E:=fun e=>by rw [e,ASt.set_same] at hE;cases hE
 obtain ⟨bD,kD⟩:=h.away hD
 have h1:=h.box hD (.obj [.int .u64 id])
 obtain ⟨bE,kE⟩:=h1.away hE
 rw [ASt.set_ne (Ne.symm hDE)] at bE
 have h2:=h1.box hE (.obj [.str []])
 have hD2:((base.set D (some (.obj [.int .u64 id]))).set E (some (.obj [.str []]))) D=some (.obj [.int .u64 id]):=by rw [ASt.set_ne hDE,ASt.set_same]
 have hE2:((base.set D (some (.obj [.int .u64 id]))).set E (some (.obj [.str []]))) E=some (.obj [.str []]):=ASt.set_same _ _ _
 have hsub:Sub base ((base.set D (some (.obj [.int .u64 id]))).set E (some (.obj [.str []]))):=((Sub.refl base).set bD).set bE
 have hset:((σ.set D (some (.obj [.int .u64 id]))).set E (some (.obj [.str []]))).set E (some (.obj [.str []]))=(σ.set D (some (.obj [.int .u64 id]))).set E (some (.obj [.str []])):=ASt.set_set _ _ _ _
 have hh2:=h2.at (hsub _ _ hh)
 have hDs:=h2.at hD2
 simp (disch:=first|assumption|omega|(simp only [List.length_append,List.length_cons,List.length_nil];omega)) only [go_sem,hset,e8,bits,p8,d8,q1,q2,hDE,hhs,hh2,hDs,wq]
 have hw:=hpwith_ok (K:=fun r base' s'=>r = .int .i64 0/\s'=b/\base' E=some (.obj [.str s])/\Sub base base') (cap := [.ptr D 0,.ptr E 0]) h2 hq hok (fun fa xa c dirty σ1 hxa hck hc hp=>by
  have hDx:D≠xa:=fun e=>by rw [<-e,hD2] at hxa;cases hxa
  have hEx:E≠xa:=fun e=>by rw [<-e,hE2] at hxa;cases hxa
  have bx:base xa=none:=by
   cases hc:base xa with
   | none=>rfl
   | some r=>rw [hsub _ _ hc] at hxa;cases hxa
  refine (hpfind1_ok (D:=D) (E:=E) (i:=i) hp (ASt.set_same _ _ _) hc (by rw [ASt.set_ne hDx];exact hD2) (by rw [ASt.set_ne hEx];exact hE2) kE hP (by omega) (by omega) hR).mono ?_
  rintro r σ3 ⟨rfl,h3⟩
  refine ⟨_,b,dirty,h3,by rw [ASt.set_ne (Ne.symm hEx),ASt.set_same],hl,.inr hq,⟨0,rfl⟩,rfl,rfl,?_,?_⟩
  ·rw [ASt.set_ne hEx,ASt.set_same]
  ·exact ((hsub.set bx).set bE).set bx)
 refine hw.mono ?_
 rintro r σ3 ⟨base3,s3,⟨rfl,rfl,g1,g3⟩,h3⟩
 rw [pset_id hq] at h3
 have k1:=h3.at g1
 simp (disch:=first|assumption|omega|(simp only [List.length_append,List.length_cons,List.length_nil];omega)) only [go_sem,k1]
 exact retC_by (.refl _) (.refl _) ⟨rfl,h3.sub g3 hcb⟩
theorem hprecord_ok {hb:Nat} (hs:s.length<=300):ACalls Tryz.prog 60 [.ptr hb 0,.str s] σ fun r σ'=>r = .tuple [.str (0::s),.int .i64 0]/\σ'=σ:=by
 have h1:(s.length:Int)<=300:=by omega
 have h2:(1:Nat)+s.length<=9223372036854775807:=by omega
 have h0:bytesOf [AV.int .u8 0]=some [0]:=rfl
 refine a60 (by simp) ?_
 simp (disch:=first|assumption|omega|(simp only [List.length_append,List.length_cons,List.length_nil];omega)) only [go_sem,h1,h0,h2]
 exact retC_by (.refl _) (.refl _) ⟨rfl,rfl⟩
theorem hpnew_ok (h:PoolAt base σ p m n pg) (hroom:(n:Int)<m.most):ACalls Tryz.prog 7 [.ptr p 0] σ fun r σ'=>∃ (hb q:Nat),r = .tuple [.ptr hb 0,.int .i64 0]/\base hb=none/\(pg q=none/\1<=q/\q<60000)/\PoolAt (base.set hb (some (.obj [.ptr p 0,.int .i64 q]))) σ' p m (n+1) (pset pg q (some (List.replicate 504 0))):=by
 refine a7 (by simp) ?_
 simp (disch:=first|assumption|omega|(simp only [List.length_append,List.length_cons,List.length_nil];omega)) only [go_sem]
 refine (pltake_ok h hroom).mono ?_
 rintro v σ1 ⟨q,fa,xa,c,dirty,rfl,hpq,hq1,hq2,hxa,hck,hc,h1⟩
 have hpage:=plpage_ok h1
 simp (disch:=first|assumption|omega|(simp only [List.length_append,List.length_cons,List.length_nil];omega)) only [go_sem]
 refine hpage.mono ?_
 rintro v σ1' ⟨rfl,rfl⟩
 simp (disch:=first|assumption|omega|(simp only [List.length_append,List.length_cons,List.length_nil];omega)) only [go_sem]
 refine boxC_by rfl fun hb hhb=>?_
 obtain ⟨b1,b2⟩:=h1.away hhb
 have hbx:hb≠xa:=fun e=>by rw [e,ASt.set_same] at b1;cases b1
 rw [ASt.set_ne hbx] at b1
 have h2:=h1.set (x:=hb) (some (.obj [.ptr p 0,.int .i64 q])) (.inr hhb) b2
 have hun:=plunpin_d h2 ((ASt.set_ne (Ne.symm hbx)).trans (ASt.set_same _ _ _)) List.length_replicate (.inr (pset_same _ _ _)) hck
 rw [pset_twice] at hun
 simp (disch:=first|assumption|omega|(simp only [List.length_append,List.length_cons,List.length_nil];omega)) only [go_sem]
 refine hun.mono ?_
 rintro v σ4 ⟨rfl,h6⟩
 have e:((base.set xa (some (.obj (bytesAV (List.replicate 504 0))))).set hb (some (.obj [.ptr p 0,.int .i64 q]))).set xa none=base.set hb (some (.obj [.ptr p 0,.int .i64 q])):=by
  funext x
  by_cases hx:x=xa
  ·rw [hx,ASt.set_same,ASt.set_ne (Ne.symm hbx),hxa]
  ·rw [ASt.set_ne hx]
   by_cases hx2:x=hb
   ·rw [hx2,ASt.set_same,ASt.set_same]
   ·rw [ASt.set_ne hx2,ASt.set_ne hx,ASt.set_ne hx2]
 rw [e] at h6
 exact retC_by (.refl _) (.refl _) ⟨hb,q,rfl,b1,⟨hpq,hq1,hq2⟩,h6⟩
end
def HpAt (pg:Pgs) (root:Nat) (T:Nat->Prop) (H:Nat->Option (List UInt8)):Prop:=
 ∃ (s:List UInt8) (cur:Nat) (recs:Nat->Option Rcs),pg root=some s/\RootP s cur/\(∀ q,T q↔q=root\/recs q≠none)/\recs root=none/\(cur=0\/recs cur≠none) ∧
  (∀ q R,recs q=some R->1<=q/\q<60000/\∃ b,pg q=some b/\SP b R)/\∀ id,H id=(recs (id / 256)).bind fun R=>getR R (id % 256)
section
variable {base base' σ:ASt} {p n q hb root id:Nat} {m:PX} {pg:Pgs} {s b:List UInt8} {R:Rcs} {T:Nat->Prop} {H:Nat->Option (List UInt8)}
theorem HpAt.look (hH:HpAt pg root T H) (hs:H id=some s):∃ q i R b,id=q*256+i/\pg q=some b/\SP b R/\R[i]? = some (some s)/\T q/\q≠root:=by
 obtain ⟨s0,cur,recs,h1,h2,h3,h4,h5,h6,h7⟩:=hH
 rw [h7] at hs
 cases hr:recs (id / 256) with
 | none=>rw [hr] at hs;cases hs
 | some R=>
   rw [hr] at hs
   obtain ⟨g1,g2,b,g3,g4⟩:=h6 _ R hr
   exact ⟨id / 256,id % 256,R,b,by omega,g3,g4,getR_some.1 hs,(h3 _).2 (.inr (by rw [hr];simp)),fun e=>by rw [e,h4] at hr;cases hr⟩
theorem hpget_ok {t:List UInt8} (h:PoolAt base σ p m n pg) (hh:base hb=some (.obj [.ptr p 0,.int .i64 root])) (hH:HpAt pg root T H) (hs:H id=some (0::t)) :
  ACalls Tryz.prog 23 [.ptr hb 0,.int .u64 id] σ fun r σ'=>r = .tuple [.str t,.int .i64 0]/\PoolAt base σ' p m n pg:=by
 obtain ⟨q,i,R,b,rfl,h1,h2,h3,h4⟩:=hH.look hs
 have hfd:=hpfind_ok h hh h1 h2 h3 rfl
 have h5:=(h2.live i _ h3).2.1
 have hl:(0::t).length=t.length+1:=rfl
 have hlt:(0:Int)<((0::t).length:Int):=by rw [hl];omega
 have h0:(0::t)[0]? = some (0:UInt8):=rfl
 have z0:((0:UInt8).toNat:Int)=0:=rfl
 have e1:((0::t).take (0::t).length).drop 1=t:=by
  rw [List.take_length]
  rfl
 have i1:(1:Int)<=((0::t).length:Int):=by rw [hl];omega
 refine a23 (by simp) ?_
 generalize hid:q*256+i=id at *
 simp (disch:=first|assumption|omega|(simp only [List.length_append,List.length_cons,List.length_nil];omega)) only [go_sem]
 refine hfd.mono ?_
 rintro v σ1 ⟨rfl,k1⟩
 generalize (0::t:List UInt8)=u at *
 simp (disch:=first|assumption|omega|(simp only [List.length_append,List.length_cons,List.length_nil];omega)) only [go_sem,h0,z0,hlt,e1,i1]
 exact retC_by (.refl _) (.refl _) ⟨rfl,k1⟩
end
end Go.A
namespace Go.A
open Go.Proofs
/-! 18: (*tabular/heap.Heap).Put -/
def c18_54:ACode := .seq (.seq (.ops [ oq 23 (.mv (.t 7)),oq 24 (.bin .neq (.t 23) (.v (.int .i64 0)))]) (.cond (.t 24) (.seq (.ops [ oq 25 (.mv (.t 7)),oq 4 (.mv (.v (.int .u64 0))),oq 5 (.mv (.t 25))]) .ret) .skip)) (.seq (.ops [ oq 27 (.mv (.t 0)),oe 28 (.call 45 [(.t 27)]),oq 26 (.mv (.t 28)),oq 29 (.ext 0 (.t 26)),oq 30 (.ext 1 (.t 26)),oq 31 (.ext 2 (.t 26)),oq 8 (.mv (.t 29)),oq 9 (.mv (.t 30)),oq 7 (.mv (.t 31))]) (.seq (.seq (.ops [ oq 32 (.mv (.t 7)),oq 33 (.bin .neq (.t 32) (.v (.int .i64 0)))]) (.cond (.t 33) (.seq (.ops [ oq 34 (.mv (.t 7)),oq 4 (.mv (.v (.int .u64 0))),oq 5 (.mv (.t 34))]) .ret) .skip)) (.seq (.ops [ oq 10 (.mv (.v (.int .i64 0))),oq 11 (.mv (.v (.bool false)))]) (.seq (.seq (.ops [ oq 35 (.mv (.t 8)),oq 36 (.bin .gtr (.t 35) (.v (.int .i64 0)))]) (.cond (.t 36) (.seq (.ops [ oq 38 (.mv (.t 0)),oq 39 (.mv (.t 8)),oq 40 (.mv (.t 6)),oe 41 (.call 61 [(.t 38),(.t 39),(.t 40)]),oq 37 (.mv (.t 41)),oq 42 (.ext 0 (.t 37)),oq 43 (.ext 1 (.t 37)),oq 44 (.ext 2 (.t 37)),oq 10 (.mv (.t 42)),oq 11 (.mv (.t 43)),oq 7 (.mv (.t 44))]) (.seq (.ops [ oq 45 (.mv (.t 7)),oq 46 (.bin .neq (.t 45) (.v (.int .i64 0)))]) (.cond (.t 46) (.seq (.ops [ oq 47 (.mv (.t 7)),oq 4 (.mv (.v (.int .u64 0))),oq 5 (.mv (.t 47))]) .ret) .skip))) .skip)) (.seq (.seq (.ops [ oq 48 (.mv (.t 11)),oq 49 (.un .not (.t 48))]) (.cond (.t 49) (.seq (.ops [ oq 51 (.mv (.t 0)),oq 52 (.nc (.t 51)),oq 53 (.fa 0 (.t 52)),oq 54 (.ld none (.t 53)),oe 55 (.call 30 [(.t 54)]),oq 50 (.mv (.t 55)),oq 56 (.ext 0 (.t 50)),oq 57 (.ext 1 (.t 50)),oq 12 (.mv (.t 56)),oq 13 (.mv (.t 57))]) (.seq (.seq (.ops [ oq 58 (.mv (.t 13)),oq 59 (.bin .neq (.t 58) (.v (.int .i64 0)))]) (.cond (.t 59) (.seq (.ops [ oq 60 (.mv (.t 13)),oq 4 (.mv (.v (.int .u64 0))),oq 5 (.mv (.t 60))]) .ret) .skip)) (.seq (.ops [ oq 61 (.mv (.t 12)),oe 62 (.call 34 [(.t 61)]),oe 63 (.call 62 [(.t 62)])]) (.seq (.ops [ oq 64 (.mv (.t 12)),oe 65 (.call 32 [(.t 64)]),oq 8 (.mv (.t 65))]) (.seq (.ops [ oq 67 (.mv (.t 12)),oe 68 (.call 34 [(.t 67)]),oq 69 (.mv (.t 6)),oe 70 (.call 63 [(.t 68),(.t 69)]),oq 66 (.mv (.t 70)),oq 71 (.ext 0 (.t 66)),oq 72 (.ext 1 (.t 66)),oq 10 (.mv (.t 71))]) (.ops [ oq 73 (.mv (.t 12)),oe 74 (.call 31 [(.t 73)])])))))) .skip)) (.seq (.ops [ oq 75 (.mv (.t 8)),oq 76 (.conv .u64 (.t 75)),oq 77 (.bin .shl (.t 76) (.v (.int .u64 8))),oq 78 (.mv (.t 10)),oq 79 (.conv .u64 (.t 78)),oq 80 (.bin .or (.t 77) (.t 79)),oq 81 (.mv (.t 0)),oq 82 (.mv (.t 8)),oq 83 (.mv (.t 9)),oq 84 (.bin .add (.t 83) (.v (.int .i64 1))),oe 85 (.call 51 [(.t 81),(.t 82),(.t 84)]),oq 4 (.mv (.t 80)),oq 5 (.mv (.t 85))]) .ret))))))
def c18_57:ACode := .seq (.ops [ oq 4 (.mv (.v (.int .u64 0))),oq 5 (.mv (.v (.int .i64 0)))]) (.seq (.seq (.ops [ oq 14 (.mv (.t 1)),oq 15 (.lenS (.t 14)),oq 16 (.bin .gtr (.t 15) (.v (.int .i64 400000)))]) (.cond (.t 16) (.seq (.ops [ oq 4 (.mv (.v (.int .u64 0))),oq 5 (.mv (.v (.int .i64 11)))]) .ret) .skip)) (.seq (.ops [ oq 18 (.mv (.t 0)),oq 19 (.mv (.t 1)),oe 20 (.call 60 [(.t 18),(.t 19)]),oq 17 (.mv (.t 20)),oq 21 (.ext 0 (.t 17)),oq 22 (.ext 1 (.t 17)),oq 6 (.mv (.t 21)),oq 7 (.mv (.t 22))]) c18_54))
@[go_sem] def c18_54_wp:=wp_of c18_54.eq_1
@[go_sem] def c18_57_wp:=wp_of c18_57.eq_1
def c18:AFn:=⟨86,[.t 4,.t 5],c18_57⟩
theorem c18_ok:compF Tryz.prog Tryz.f18=some c18:=by kernel_rfl
theorem a18 {args:List AV} {σ:ASt} {R:AV->ASt->Prop} (hl:args.length<=86) (h:c18_57.wp Tryz.prog (RetQ [.t 4,.t 5] R) (init args) σ):ACalls Tryz.prog 18 args σ R:=acalls_of Tryz.func18 c18_ok hl h
end Go.A
namespace Go.A
open Go.Proofs
def upH (H:Nat->Option (List UInt8)) (id:Nat) (v:Option (List UInt8)):Nat->Option (List UInt8):=fun x=>if x=id then v else H x
theorem idfacts {q i:Nat} (hq:q<60000) (hi:i<=124):∃ Q8 ID:Nat,ID=q*256+i/\(q:Int)*256=(Q8:Int)/\binI .or .u64 (Q8:Int) (i:Int)=some (.int .u64 (ID:Int))/\IntKind.wrap .u64 (q:Int)=q/\IntKind.wrap .u64 (i:Int)=i/\IntKind.wrap .u64 (Q8:Int)=Q8:=
 ⟨q*256,q*256+i,rfl,by omega,or_u64 (by omega) (by omega),wrap_u64 (by omega) (by omega),wrap_u64 (by omega) (by omega),wrap_u64 (by omega) (by omega)⟩
section
variable {pg:Pgs} {root cur q i:Nat} {s s' b b' rec:List UInt8} {R R':Rcs} {T:Nat->Prop} {H:Nat->Option (List UInt8)} {recs:Nat->Option Rcs}
theorem upH_at {recs':Nat->Option Rcs} {v:Option (List UInt8)} (hi:i<=124) (h:∀ id,H id=(recs (id / 256)).bind fun R=>getR R (id % 256)) (h1:∀ r,r≠q->recs' r=recs r)
  (h2:∀ j,(recs' q).bind (fun R=>getR R j)=if j=i then v else (recs q).bind fun R=>getR R j):∀ id,upH H (q*256+i) v id=(recs' (id / 256)).bind fun R=>getR R (id % 256):=fun id=>by
 unfold upH
 by_cases he:id=q*256+i
 ·have e1:id / 256=q:=by omega
  have e2:id % 256=i:=by omega
  rw [if_pos he,e1,e2,h2,if_pos rfl]
 ·rw [if_neg he,h]
  by_cases hq:id / 256=q
  ·rw [hq,h2,if_neg (by omega)]
  ·rw [h1 _ hq]
theorem HpAt.next {pg':Pgs} {recs':Nat->Option Rcs} {v:Option (List UInt8)} (hi:i<=124) (hroot:recs root=none) (hqr:q≠root) (hps:∀ r R,recs r=some R->1<=r/\r<60000/\∃ b,pg r=some b/\SP b R) (hH:∀ id,H id=(recs (id / 256)).bind fun R=>getR R (id % 256))
  (hr:pg' root=some s') (hs:RootP s' cur) (hpg:∀ r,r≠root->r≠q->pg' r=pg r) (h1:∀ r,r≠q->recs' r=recs r) (hc:cur=0\/recs' cur≠none)
  (hq:∀ R,recs' q=some R->1<=q/\q<60000/\∃ b,pg' q=some b/\SP b R) (h2:∀ j,(recs' q).bind (fun R=>getR R j)=if j=i then v else (recs q).bind fun R=>getR R j) :
  HpAt pg' root (fun r=>r=root\/recs' r≠none) (upH H (q*256+i) v):=by
 refine ⟨s',cur,recs',hr,hs,fun r=>Iff.rfl,by rw [h1 _ (Ne.symm hqr)];exact hroot,hc,fun r R hR=>?_,upH_at hi hH h1 h2⟩
 by_cases he:r=q
 ·subst he;exact hq R hR
 ·have hne:r≠root:=fun e=>by rw [e,h1 _ (Ne.symm hqr),hroot] at hR;cases hR
  rw [h1 _ he] at hR
  rw [hpg r hne he]
  exact hps r R hR
theorem liveR_zero (h:SP b R) (h0:liveR R=0):R = []:=by
 refine Classical.byContradiction fun hn=>?_
 have hl:=List.length_pos_iff.2 hn
 cases hx:R[R.length-1]? with
 | none=>
   have:=List.getElem?_eq_none_iff.1 hx
   omega
 | some x=>
   cases x with
   | none=>exact h.last _ (by omega) hx
   | some t=>have:=liveR_pos hx;omega
end
section
variable {base base' σ:ASt} {p n q hb root id:Nat} {m:PX} {pg:Pgs} {s b:List UInt8} {R:Rcs} {T:Nat->Prop} {H:Nat->Option (List UInt8)}
set_option maxHeartbeats 2000000 in
theorem hpput_ok (h:PoolAt base σ p m n pg) (hh:base hb=some (.obj [.ptr p 0,.int .i64 root])) (hH:HpAt pg root T H) (hs:s.length<=300) (hroom:(n:Int)<m.most) :
  ACalls Tryz.prog 18 [.ptr hb 0,.str s] σ fun r σ'=>∃ (id:Nat) (pg':Pgs) (T':Nat->Prop),r = .tuple [.int .u64 id,.int .i64 0]/\id<15360000/\H id=none/\HpAt pg' root T' (upH H id (some (0::s)))/\Fr T pg T' pg'/\PoolAt base σ' p m (n+1) pg':=by
 obtain ⟨s0,cur,recs,h1,h2,h3,h4,h5,h6,h7⟩:=hH
 have hhs:=h.at hh
 have hrec:=hprecord_ok (σ:=σ) (hb:=hb) hs
 have hl:(0::s:List UInt8).length=s.length+1:=rfl
 have hne:(0::s:List UInt8) ≠ []:=by simp
 have hst:=hpstate_ok h hh h1 h2
 have hs400:¬ (400000:Int)<(s.length:Int):=by omega
 have e8:(8:Int).toNat=8:=rfl
 have bits:IntKind.bits .u64=64:=rfl
 have p8:(2:Int) ^ 8=256:=rfl
 have hcur:=h2.2.2.1
 have hroot1:=h.rng h1
 have fin:∀ (q0 i:Nat) (b1 s':List UInt8) (R1:Rcs),pg q0=none->1<=q0->q0<60000->i<=124->SP b1 R1->(∀ j,getR R1 j=if j=i then some (0::s) else getR [] j)->RootP s' q0 →
   H (q0*256+i)=none/\∃ T',HpAt (pset (pset pg q0 (some b1)) root (some s')) root T' (upH H (q0*256+i) (some (0::s)))/\Fr T pg T' (pset (pset pg q0 (some b1)) root (some s')):=by
  intro q0 i b1 s' R1 k1 k2 k3 k4 k5 k6 k7
  have hrq:recs q0=none:=by
   cases hc:recs q0 with
   | none=>rfl
   | some R=>
     obtain ⟨_,_,b,g,_⟩:=h6 q0 R hc
     rw [k1] at g;cases g
  have hqr:q0≠root:=fun e=>by rw [e,h1] at k1;cases k1
  have hnil:∀ j,getR [] j=none:=fun j=>by unfold getR;rw [List.getElem?_nil];rfl
  refine ⟨?_,_,HpAt.next (recs:=recs) (cur:=q0) (q:=q0) (recs':=fun r=>if r=q0 then some R1 else recs r) k4 h4 hqr h6 h7 (pset_same _ _ _) k7 (fun r g1 g2=>by rw [pset_ne g1,pset_ne g2]) (fun r hr=>if_neg hr) (.inr (by rw [if_pos rfl];simp)) (fun R hR=>?_) (fun j=>?_),fun r hT hn=>?_⟩
  ·have e1:(q0*256+i) / 256=q0:=by omega
   rw [h7,e1,hrq];rfl
  ·rw [if_pos rfl] at hR
   injection hR with hR;subst hR
   exact ⟨k2,k3,b1,by rw [pset_ne hqr,pset_same],k5⟩
  ·rw [if_pos rfl,hrq]
   show getR R1 j=_
   rw [k6,hnil]
   rfl
  ·have hT':=fun e=>hT ((h3 r).2 e)
   have g1:r≠root:=fun e=>hT' (.inl e)
   have g2:r≠q0:=fun e=>by rw [e,k1] at hn;exact hn rfl
   refine ⟨fun hc=>?_,by rw [pset_ne g1,pset_ne g2]⟩
   rcases hc with hc|hc
   ·exact g1 hc
   ·rw [if_neg g2] at hc;exact hT' (.inr hc)
 have fin2:∀ (i:Nat) (b1 s':List UInt8) (R R1:Rcs),recs cur=some R->i<=124->getR R i=none->SP b1 R1->(∀ j,getR R1 j=if j=i then some (0::s) else getR R j)->RootP s' cur →
   H (cur*256+i)=none/\∃ T',HpAt (pset (pset pg cur (some b1)) root (some s')) root T' (upH H (cur*256+i) (some (0::s)))/\Fr T pg T' (pset (pset pg cur (some b1)) root (some s')):=by
  intro i b1 s' R R1 k1 k4 k0 k5 k6 k7
  obtain ⟨c1,c2,c3⟩:=h6 cur R k1
  have hqr:cur≠root:=fun e=>by rw [e,h4] at k1;cases k1
  refine ⟨?_,_,HpAt.next (recs:=recs) (cur:=cur) (q:=cur) (recs':=fun r=>if r=cur then some R1 else recs r) k4 h4 hqr h6 h7 (pset_same _ _ _) k7 (fun r g1 g2=>by rw [pset_ne g1,pset_ne g2]) (fun r hr=>if_neg hr) (.inr (by rw [if_pos rfl];simp)) (fun R hR=>?_) (fun j=>?_),fun r hT hn=>?_⟩
  ·have e1:(cur*256+i) / 256=cur:=by omega
   have e2:(cur*256+i) % 256=i:=by omega
   rw [h7,e1,e2,k1];exact k0
  ·rw [if_pos rfl] at hR
   injection hR with hR;subst hR
   exact ⟨c1,c2,b1,by rw [pset_ne hqr,pset_same],k5⟩
  ·rw [if_pos rfl,k1]
   exact k6 j
  ·have hT':=fun e=>hT ((h3 r).2 e)
   have g1:r≠root:=fun e=>hT' (.inl e)
   have g2:r≠cur:=fun e=>hT' (.inr (by rw [e,k1];simp))
   refine ⟨fun hc=>?_,by rw [pset_ne g1,pset_ne g2]⟩
   rcases hc with hc|hc
   ·exact g1 hc
   ·rw [if_neg g2] at hc;exact hT' (.inr hc)
 have hroomR:((0::s:List UInt8).length:Int)<=roomR []:=by
  have:roomR []=496:=by decide
  rw [this,hl];omega
 generalize (0::s:List UInt8)=rec at *
 obtain ⟨K,hK⟩:∃ K:AV->ASt->Prop,K=fun r σ'=>∃ (id:Nat) (pg':Pgs) (T':Nat->Prop),r = .tuple [.int .u64 id,.int .i64 0]/\id<15360000/\H id=none/\HpAt pg' root T' (upH H id (some rec))/\Fr T pg T' pg'/\PoolAt base σ' p m (n+1) pg':=⟨_,rfl⟩
 suffices hS:ACalls Tryz.prog 18 [.ptr hb 0,.str s] σ K by rw [hK] at hS;exact hS
 refine a18 (by simp) ?_
 simp (disch:=first|assumption|omega|(simp only [List.length_append,List.length_cons,List.length_nil];omega)) only [go_sem,hs400]
 refine hrec.mono ?_
 rintro v σ1 ⟨rfl,rfl⟩
 simp (disch:=first|assumption|omega|(simp only [List.length_append,List.length_cons,List.length_nil];omega)) only [go_sem]
 refine hst.mono ?_
 rintro v σ2 ⟨⟨cnt,hcnt,rfl⟩,k0⟩
 rcases h5 with hz|hz
 ·have c0:¬ (0:Int)<(cur:Int):=by omega
  have hh2:=k0.at hh
  simp (disch:=first|assumption|omega|(simp only [List.length_append,List.length_cons,List.length_nil];omega)) only [go_sem,c0,hh2]
  refine (pltake_ok k0 hroom).mono ?_
  rintro v σ5 ⟨q0,fa,xa,c,dirty,rfl,hpq,hq1,hq2,hxa,hck,hc,t1⟩
  simp (disch:=first|assumption|omega|(simp only [List.length_append,List.length_cons,List.length_nil];omega)) only [go_sem]
  refine (pledit_ok t1 (ASt.set_same _ _ _) List.length_replicate (.inr (pset_same _ _ _))).mono ?_
  rintro v σ6 ⟨rfl,t2⟩
  simp (disch:=first|assumption|omega|(simp only [List.length_append,List.length_cons,List.length_nil];omega)) only [go_sem]
  refine (slinit_ok (c:=c) (t2.at (ASt.set_same _ _ _)) List.length_replicate).mono ?_
  rintro v σ7 ⟨rfl,b0,sp0,rfl⟩
  have t3:=t2.set (x:=xa) (some (.obj (bytesAV b0))) (.inl (by rw [ASt.set_same];simp)) hck
  rw [ASt.set_set] at t3
  have hpage:=plpage_ok t3
  simp (disch:=first|assumption|omega|(simp only [List.length_append,List.length_cons,List.length_nil];omega)) only [go_sem]
  refine hpage.mono ?_
  rintro v σ8 ⟨rfl,rfl⟩
  simp (disch:=first|assumption|omega|(simp only [List.length_append,List.length_cons,List.length_nil];omega)) only [go_sem]
  refine (pledit_ok t3 (ASt.set_same _ _ _) sp0.hl (.inl rfl)).mono ?_
  rintro v σ9 ⟨rfl,t4⟩
  simp (disch:=first|assumption|omega|(simp only [List.length_append,List.length_cons,List.length_nil];omega)) only [go_sem]
  refine (sladd_ok (c:=c) (t4.at (ASt.set_same _ _ _)) sp0 hc hne hroomR).mono ?_
  rintro v σ10 ⟨i,b1,R1,rfl,g1,g2,g3,g4,rfl⟩
  have t5:=t4.set (x:=xa) (some (.obj (bytesAV b1))) (.inl (by rw [ASt.set_same];simp)) hck
  rw [ASt.set_set] at t5
  have hun:=plunpin_ok t5 (ASt.set_same _ _ _) g3.hl (.inl rfl) hck
  rw [set_none_id hxa,pset_twice] at hun
  simp (disch:=first|assumption|omega|(simp only [List.length_append,List.length_cons,List.length_nil];omega)) only [go_sem]
  refine hun.mono ?_
  rintro v σ11 ⟨rfl,t6⟩
  have hq0r:root≠q0:=fun e=>by rw [<-e,h1] at hpq;cases hpq
  obtain ⟨Q8,ID,hID,m1,hor,w1,w2,w3⟩:=idfacts hq2 g1
  have hst2:=hpsetstate_ok (z:=(cnt:Int)+1) t6 hh (by rw [pset_ne hq0r];exact h1) hq2
  simp (disch:=first|assumption|omega|(simp only [List.length_append,List.length_cons,List.length_nil];omega)) only [go_sem,e8,bits,p8,w1,w2,w3,m1,hor]
  refine hst2.mono ?_
  rintro v σ12 ⟨rfl,s',rs',t7⟩
  obtain ⟨f1,T',f2,f3⟩:=fin q0 i b1 s' R1 hpq hq1 hq2 g1 g3 g4 rs'
  rw [<-hID] at f1 f2
  simp (disch:=first|assumption|omega|(simp only [List.length_append,List.length_cons,List.length_nil];omega)) only [go_sem]
  refine retC_by (.refl _) (.refl _) ?_
  rw [hK]
  exact ⟨ID,_,T',rfl,by omega,f1,f2,f3,t7⟩
 ·have hc0:cur≠0:=fun e=>by
   cases hc:recs cur with
   | none=>exact hz hc
   | some R=>have:=(h6 cur R hc).1;omega
  have c0:(0:Int)<(cur:Int):=by omega
  obtain ⟨R,hR⟩:∃ R,recs cur=some R:=by
   cases hc:recs cur with
   | none=>exact absurd hc hz
   | some R=>exact ⟨R,rfl⟩
  obtain ⟨c1,c2,b,c3,c4⟩:=h6 cur R hR
  have hqr:cur≠root:=fun e=>by rw [e,h4] at hR;cases hR
  have hadd:=hpadd_ok k0 hh c3 c4 hne (by omega)
  simp (disch:=first|assumption|omega|(simp only [List.length_append,List.length_cons,List.length_nil];omega)) only [go_sem,c0]
  refine hadd.mono ?_
  rintro v σ3 (⟨i,b1,R1,rfl,g1,g2,g3,g4,k1⟩|⟨rfl,k1⟩)
  ·obtain ⟨Q8,ID,hID,m1,hor,w1,w2,w3⟩:=idfacts hcur g1
   have hst2:=hpsetstate_ok (z:=(cnt:Int)+1) k1 hh (by rw [pset_ne (Ne.symm hqr)];exact h1) hcur
   simp (disch:=first|assumption|omega|(simp only [List.length_append,List.length_cons,List.length_nil];omega)) only [go_sem,e8,bits,p8,w1,w2,w3,m1,hor]
   refine hst2.mono ?_
   rintro v σ4 ⟨rfl,s',rs',k2⟩
   obtain ⟨f1,T',f2,f3⟩:=fin2 i b1 s' R R1 hR g1 g2 g3 g4 rs'
   rw [<-hID] at f1 f2
   simp (disch:=first|assumption|omega|(simp only [List.length_append,List.length_cons,List.length_nil];omega)) only [go_sem]
   refine retC_by (.refl _) (.refl _) ?_
   rw [hK]
   exact ⟨ID,_,T',rfl,by omega,f1,f2,f3,k2.more (by omega)⟩
  ·have hh2:=k1.at hh
   have k0:=k1
   simp (disch:=first|assumption|omega|(simp only [List.length_append,List.length_cons,List.length_nil];omega)) only [go_sem,hh2]
   refine (pltake_ok k0 hroom).mono ?_
   rintro v σ5 ⟨q0,fa,xa,c,dirty,rfl,hpq,hq1,hq2,hxa,hck,hc,t1⟩
   simp (disch:=first|assumption|omega|(simp only [List.length_append,List.length_cons,List.length_nil];omega)) only [go_sem]
   refine (pledit_ok t1 (ASt.set_same _ _ _) List.length_replicate (.inr (pset_same _ _ _))).mono ?_
   rintro v σ6 ⟨rfl,t2⟩
   simp (disch:=first|assumption|omega|(simp only [List.length_append,List.length_cons,List.length_nil];omega)) only [go_sem]
   refine (slinit_ok (c:=c) (t2.at (ASt.set_same _ _ _)) List.length_replicate).mono ?_
   rintro v σ7 ⟨rfl,b0,sp0,rfl⟩
   have t3:=t2.set (x:=xa) (some (.obj (bytesAV b0))) (.inl (by rw [ASt.set_same];simp)) hck
   rw [ASt.set_set] at t3
   have hpage:=plpage_ok t3
   simp (disch:=first|assumption|omega|(simp only [List.length_append,List.length_cons,List.length_nil];omega)) only [go_sem]
   refine hpage.mono ?_
   rintro v σ8 ⟨rfl,rfl⟩
   simp (disch:=first|assumption|omega|(simp only [List.length_append,List.length_cons,List.length_nil];omega)) only [go_sem]
   refine (pledit_ok t3 (ASt.set_same _ _ _) sp0.hl (.inl rfl)).mono ?_
   rintro v σ9 ⟨rfl,t4⟩
   simp (disch:=first|assumption|omega|(simp only [List.length_append,List.length_cons,List.length_nil];omega)) only [go_sem]
   refine (sladd_ok (c:=c) (t4.at (ASt.set_same _ _ _)) sp0 hc hne hroomR).mono ?_
   rintro v σ10 ⟨i,b1,R1,rfl,g1,g2,g3,g4,rfl⟩
   have t5:=t4.set (x:=xa) (some (.obj (bytesAV b1))) (.inl (by rw [ASt.set_same];simp)) hck
   rw [ASt.set_set] at t5
   have hun:=plunpin_ok t5 (ASt.set_same _ _ _) g3.hl (.inl rfl) hck
   rw [set_none_id hxa,pset_twice] at hun
   simp (disch:=first|assumption|omega|(simp only [List.length_append,List.length_cons,List.length_nil];omega)) only [go_sem]
   refine hun.mono ?_
   rintro v σ11 ⟨rfl,t6⟩
   have hq0r:root≠q0:=fun e=>by rw [<-e,h1] at hpq;cases hpq
   obtain ⟨Q8,ID,hID,m1,hor,w1,w2,w3⟩:=idfacts hq2 g1
   have hst2:=hpsetstate_ok (z:=(cnt:Int)+1) t6 hh (by rw [pset_ne hq0r];exact h1) hq2
   simp (disch:=first|assumption|omega|(simp only [List.length_append,List.length_cons,List.length_nil];omega)) only [go_sem,e8,bits,p8,w1,w2,w3,m1,hor]
   refine hst2.mono ?_
   rintro v σ12 ⟨rfl,s',rs',t7⟩
   obtain ⟨f1,T',f2,f3⟩:=fin q0 i b1 s' R1 hpq hq1 hq2 g1 g3 g4 rs'
   rw [<-hID] at f1 f2
   simp (disch:=first|assumption|omega|(simp only [List.length_append,List.length_cons,List.length_nil];omega)) only [go_sem]
   refine retC_by (.refl _) (.refl _) ?_
   rw [hK]
   exact ⟨ID,_,T',rfl,by omega,f1,f2,f3,t7⟩
end
end Go.A
namespace Go.A
open Go.Proofs
/-! 13: (*tabular/heap.Heap).Drop -/
def c13_44:ACode := .seq (.ops [ oq 13 (.ld none (.t 2)),oq 14 (.ld none (.t 3)),oe 15 (.call 41 [(.t 13),(.t 14)]),oq 12 (.mv (.t 15)),oq 16 (.ext 0 (.t 12)),oq 17 (.ext 1 (.t 12)),oq 5 (.mv (.t 16)),oq 6 (.mv (.t 17))]) (.seq (.seq (.ops [ oq 18 (.mv (.t 6)),oq 19 (.bin .neq (.t 18) (.v (.int .i64 0)))]) (.cond (.t 19) (.seq (.ops [ oq 20 (.mv (.t 6)),oq 4 (.mv (.t 20))]) .ret) .skip)) (.seq (.seq (.ops [ oq 21 (.mv (.t 5)),oq 22 (.idx (.t 21) (.v (.int .i64 0))),oq 23 (.bin .eql (.t 22) (.v (.int .u8 1)))]) (.cond (.t 23) (.seq (.ops [ oq 24 (.ld none (.t 2)),oq 25 (.mv (.t 5)),oq 26 (.mkf (.func 43) [] [(.t 2)]),oe 27 (.call 42 [(.t 24),(.t 25),(.t 26)]),oq 7 (.mv (.t 27))]) (.seq (.ops [ oq 28 (.mv (.t 7)),oq 29 (.bin .neq (.t 28) (.v (.int .i64 0)))]) (.cond (.t 29) (.seq (.ops [ oq 30 (.mv (.t 7)),oq 4 (.mv (.t 30))]) .ret) .skip))) .skip)) (.seq (.ops [ oq 32 (.ld none (.t 2)),oe 33 (.call 45 [(.t 32)]),oq 31 (.mv (.t 33)),oq 34 (.ext 0 (.t 31)),oq 35 (.ext 1 (.t 31)),oq 36 (.ext 2 (.t 31)),oq 8 (.mv (.t 34)),oq 9 (.mv (.t 35)),oq 6 (.mv (.t 36))]) (.seq (.seq (.ops [ oq 37 (.mv (.t 6)),oq 38 (.bin .neq (.t 37) (.v (.int .i64 0)))]) (.cond (.t 38) (.seq (.ops [ oq 39 (.mv (.t 6)),oq 4 (.mv (.t 39))]) .ret) .skip)) (.seq (.ops [ oq 40 (.ld none (.t 3)),oq 41 (.bin .shr (.t 40) (.v (.int .u64 8))),oq 42 (.conv .i64 (.t 41)),oe 11 (.alloc [(.int .i64 0)]),oq 10 (.mv (.t 42)),oz (.store 1 (.t 11) (.v (.int .i64 0)))]) (.seq (.ops [ oq 43 (.ld none (.t 2)),oq 44 (.nc (.t 43)),oq 45 (.fa 0 (.t 44)),oq 46 (.ld none (.t 45)),oq 47 (.mv (.t 10)),oq 48 (.mkf (.func 47) [] [(.t 3),(.t 11)]),oe 49 (.call 46 [(.t 46),(.t 47),(.t 48)]),oq 6 (.mv (.t 49))]) (.seq (.seq (.ops [ oq 50 (.mv (.t 6)),oq 51 (.bin .eql (.t 50) (.v (.int .i64 0))),oq 52 (.mv (.t 51)),⟨some 53,some (52,true),.q (.ld none (.t 11)),[]⟩,⟨some 54,some (52,true),.q (.bin .eql (.t 53) (.v (.int .i64 0))),[]⟩,oq 55 (.pick (.t 52) (.t 54) (.v (.bool false))),oq 56 (.mv (.t 55)),⟨some 57,some (56,true),.q (.mv (.t 10)),[]⟩,⟨some 58,some (56,true),.q (.mv (.t 8)),[]⟩,⟨some 59,some (56,true),.q (.bin .neq (.t 57) (.t 58)),[]⟩,oq 60 (.pick (.t 56) (.t 59) (.v (.bool false)))]) (.cond (.t 60) (.ops [ oq 61 (.ld none (.t 2)),oq 62 (.nc (.t 61)),oq 63 (.fa 0 (.t 62)),oq 64 (.ld none (.t 63)),oq 65 (.mv (.t 10)),oe 66 (.call 44 [(.t 64),(.t 65)]),oq 6 (.mv (.t 66))]) .skip)) (.seq (.seq (.ops [ oq 67 (.mv (.t 6)),oq 68 (.bin .neq (.t 67) (.v (.int .i64 0)))]) (.cond (.t 68) (.seq (.ops [ oq 69 (.mv (.t 6)),oq 4 (.mv (.t 69))]) .ret) .skip)) (.seq (.ops [ oq 70 (.ld none (.t 2)),oq 71 (.mv (.t 8)),oq 72 (.mv (.t 9)),oq 73 (.bin .sub (.t 72) (.v (.int .i64 1))),oe 74 (.call 51 [(.t 70),(.t 71),(.t 73)]),oq 4 (.mv (.t 74))]) .ret)))))))))
def c13_45:ACode := .seq (.ops [ oe 2 (.box (.t 0)),oe 3 (.box (.t 1)),oq 4 (.mv (.v (.int .i64 0)))]) c13_44
@[go_sem] def c13_44_wp:=wp_of c13_44.eq_1
@[go_sem] def c13_45_wp:=wp_of c13_45.eq_1
def c13:AFn:=⟨75,[.t 4],c13_45⟩
theorem c13_ok:compF Tryz.prog Tryz.f13=some c13:=by kernel_rfl
theorem a13 {args:List AV} {σ:ASt} {R:AV->ASt->Prop} (hl:args.length<=75) (h:c13_45.wp Tryz.prog (RetQ [.t 4] R) (init args) σ):ACalls Tryz.prog 13 args σ R:=acalls_of Tryz.func13 c13_ok hl h
/-! 47: (*tabular/heap.Heap).Drop$2 -/
def c47_7:ACode := .seq (.ops [ oq 4 (.mv (.v (.int .i64 0)))]) (.seq (.ops [ oq 5 (.mv (.t 0)),oq 7 (.ld none (.t 1)),oq 8 (.bin .and (.t 7) (.v (.int .u64 255))),oq 9 (.conv .i64 (.t 8)),⟨some 6,none,.e (.call 34 [(.t 5)]),[⟨none,.ld none (.t 1),7⟩]⟩,oe 10 (.call 48 [(.t 6),(.t 9)])]) (.seq (.ops [ oq 11 (.mv (.t 0)),oe 12 (.call 50 [(.t 11)]),oe 13 (.call 49 [(.t 12)]),oz (.store 1 (.t 2) (.t 13))]) (.seq (.ops [ oq 4 (.mv (.v (.int .i64 0)))]) .ret)))
@[go_sem] def c47_7_wp:=wp_of c47_7.eq_1
def c47:AFn:=⟨14,[.t 4],c47_7⟩
theorem c47_ok:compF Tryz.prog Tryz.f47=some c47:=by kernel_rfl
theorem a47 {args:List AV} {σ:ASt} {R:AV->ASt->Prop} (hl:args.length<=14) (h:c47_7.wp Tryz.prog (RetQ [.t 4] R) (init args) σ):ACalls Tryz.prog 47 args σ R:=acalls_of Tryz.func47 c47_ok hl h
end Go.A
namespace Go.A
open Go.Proofs
section
variable {base base' σ:ASt} {p n q hb root id page fa xa c:Nat} {m:PX} {pg:Pgs} {dirty:Bool} {s b:List UInt8} {R:Rcs} {T:Nat->Prop} {H:Nat->Option (List UInt8)}
theorem hpdrop2_ok {D L id i:Nat} (h:PinAt base σ p m n pg page fa xa c dirty) (hx:base xa=some (.obj (bytesAV b))) (hd:dirty=true\/pg page=some b) (hc:504<=c) (hk:xa≠0) (hD:base D=some (.obj [.int .u64 id])) (hL:base L=some (.obj [.int .i64 0])) (kL:L≠0) (xD:xa≠D) (xL:xa≠L)
  (hP:SP b R) (hid:id<18446744073709551616) (hi:id % 256=i) (hR:R[i]? = some (some s)) :
  ACalls Tryz.prog 47 [.ptr fa 0,.ptr D 0,.ptr L 0] σ fun r σ'=>r = .int .i64 0/\∃ b' R',SP b' R'/\(∀ j,getR R' j=if j=i then none else getR R j) ∧
   PinAt ((base.set xa (some (.obj (bytesAV b')))).set L (some (.obj [.int .i64 (liveR R')]))) σ' p m n pg page fa xa c true:=by
 have hDs:=h.at hD
 have hand:=and_u64 hid
 rw [hi] at hand
 have wi:IntKind.wrap .i64 (i:Int)=i:=wrap_i64 (by omega) (by omega)
 refine a47 (by simp) ?_
 simp (disch:=first|assumption|omega|(simp only [List.length_append,List.length_cons,List.length_nil];omega)) only [go_sem,hDs,hand,wi]
 refine (pledit_ok h hx hP.hl hd).mono ?_
 rintro v σ1 ⟨rfl,h1⟩
 have hD1:=h1.at hD
 simp (disch:=first|assumption|omega|(simp only [List.length_append,List.length_cons,List.length_nil];omega)) only [go_sem,hD1,hand,wi]
 refine (sldrop_ok (c:=c) (h1.at hx) hP hR).mono ?_
 rintro v σ2 ⟨b',R',rfl,g1,g2,rfl⟩
 have h2:=h1.set (x:=xa) (some (.obj (bytesAV b'))) (.inl (by rw [hx];simp)) hk
 have hD2:=h2.at ((ASt.set_ne (Ne.symm xD)).trans hD)
 have hL2:(base.set xa (some (.obj (bytesAV b')))) L=some (.obj [.int .i64 0]):=by rw [ASt.set_ne (Ne.symm xL)];exact hL
 have kL2:=h2.at hL2
 have hb:=plbytes_ok h2
 have hlv:=sllive_ok (c:=c) (h2.at (ASt.set_same base xa (some (.obj (bytesAV b'))))) g1.toSW
 have h3:=h2.set (x:=L) (some (.obj [.int .i64 (liveR R')])) (.inl (by rw [hL2];simp)) kL
 obtain ⟨σ3,hσ3⟩:∃ τ,τ=σ1.set xa (some (.obj (bytesAV b'))):=⟨_,rfl⟩
 rw [<-hσ3] at hD2 kL2 hb hlv h3 ⊢
 simp (disch:=first|assumption|omega|(simp only [List.length_append,List.length_cons,List.length_nil];omega)) only [go_sem,hD2,hand,wi]
 refine hb.mono ?_
 rintro v σ4 ⟨rfl,rfl⟩
 simp (disch:=first|assumption|omega|(simp only [List.length_append,List.length_cons,List.length_nil];omega)) only [go_sem]
 refine hlv.mono ?_
 rintro v σ4 ⟨rfl,rfl⟩
 simp (disch:=first|assumption|omega|(simp only [List.length_append,List.length_cons,List.length_nil];omega)) only [go_sem,kL2]
 exact retC_by (.refl _) (.refl _) ⟨rfl,b',R',g1,g2,h3⟩
set_option maxHeartbeats 2000000 in
theorem hpdrop_ok (h:PoolAt base σ p m n pg) (hh:base hb=some (.obj [.ptr p 0,.int .i64 root])) (hH:HpAt pg root T H) (hs:H id=some s) (hz:s.head? = some 0) :
  ACalls Tryz.prog 13 [.ptr hb 0,.int .u64 id] σ fun r σ'=>∃ (pg':Pgs) (T':Nat->Prop),r = .int .i64 0/\HpAt pg' root T' (upH H id none)/\Fr T pg T' pg'/\PoolAt base σ' p m n pg':=by
 obtain ⟨s0,cur,recs,h1,h2,h3,h4,h5,h6,h7⟩:=hH
 have hs':=hs
 rw [h7] at hs'
 obtain ⟨R,hR⟩:∃ R,recs (id / 256)=some R:=by
  cases hr:recs (id / 256) with
  | none=>rw [hr] at hs';cases hs'
  | some R=>exact ⟨R,rfl⟩
 rw [hR] at hs'
 have hRi:R[id % 256]? = some (some s):=getR_some.1 hs'
 obtain ⟨q,hq⟩:∃ q,q=id / 256:=⟨_,rfl⟩
 obtain ⟨i,hi⟩:∃ i,i=id % 256:=⟨_,rfl⟩
 rw [<-hq] at hR
 rw [<-hi] at hRi
 obtain ⟨c1,c2,b,c3,c4⟩:=h6 q R hR
 have hf:=c4.few
 have hil:=(List.getElem?_eq_some_iff.1 hRi).1
 have hqr:q≠root:=fun e=>by rw [e,h4] at hR;cases hR
 have hide:id=q*256+i:=by omega
 have hcur:=h2.2.2.1
 have hfd:=hpfind_ok h hh c3 c4 hRi hide
 have hok:okFn Tryz.prog 47=true:=by kernel_rfl
 have hcb:=h.ck
 have hhs:=h.at hh
 obtain ⟨t,rfl⟩:∃ t,s=0::t:=by
  cases s with
  | nil=>cases hz
  | cons x t=>injection hz with hz;exact ⟨t,by rw [hz]⟩
 have hl1:(0::t:List UInt8).length=t.length+1:=rfl
 have hlt:(0:Int)<((0::t:List UInt8).length:Int):=by rw [hl1];omega
 have h0:(0::t:List UInt8)[0]? = some (0:UInt8):=rfl
 have z0:((0:UInt8).toNat:Int)=0:=rfl
 have e8:(8:Int).toNat=8:=rfl
 have bits:IntKind.bits .u64=64:=rfl
 have p8:(2:Int) ^ 8=256:=rfl
 have d8:(id:Int) / 256=(q:Int):=by omega
 have wq:IntKind.wrap .i64 (q:Int)=q:=wrap_i64 (by omega) (by omega)
 have keep:∀ (b1 s':List UInt8) (R1:Rcs),SP b1 R1->(∀ j,getR R1 j=if j=i then none else getR R j)->RootP s' cur →
   ∃ T',HpAt (pset (pset pg q (some b1)) root (some s')) root T' (upH H id none)/\Fr T pg T' (pset (pset pg q (some b1)) root (some s')):=by
  intro b1 s' R1 k5 k6 k7
  rw [hide]
  refine ⟨_,HpAt.next (recs:=recs) (cur:=cur) (q:=q) (recs':=fun r=>if r=q then some R1 else recs r) (by omega) h4 hqr h6 h7 (pset_same _ _ _) k7 (fun r g1 g2=>by rw [pset_ne g1,pset_ne g2]) (fun r hr=>if_neg hr) (h5.imp (fun h=>h) fun h=>?_) (fun R' hR'=>?_) (fun j=>?_),fun r hT hn=>?_⟩
  ·split
   ·simp
   ·exact h
  ·rw [if_pos rfl] at hR'
   injection hR' with hR';subst hR'
   exact ⟨c1,c2,b1,by rw [pset_ne hqr,pset_same],k5⟩
  ·rw [if_pos rfl,hR]
   exact k6 j
  ·have hT':=fun e=>hT ((h3 r).2 e)
   have g1:r≠root:=fun e=>hT' (.inl e)
   have g2:r≠q:=fun e=>hT' (.inr (by rw [e,hR];simp))
   refine ⟨fun hc=>?_,by rw [pset_ne g1,pset_ne g2]⟩
   rcases hc with hc|hc
   ·exact g1 hc
   ·rw [if_neg g2] at hc;exact hT' (.inr hc)
 have give:∀ (b1 s':List UInt8) (R1:Rcs),q≠cur->R1 = []->(∀ j,getR R1 j=if j=i then none else getR R j)->RootP s' cur →
   ∃ T',HpAt (pset (pset (pset pg q (some b1)) q none) root (some s')) root T' (upH H id none)/\Fr T pg T' (pset (pset (pset pg q (some b1)) q none) root (some s')):=by
  intro b1 s' R1 k1 k5 k6 k7
  rw [hide]
  refine ⟨_,HpAt.next (recs:=recs) (cur:=cur) (q:=q) (recs':=fun r=>if r=q then none else recs r) (by omega) h4 hqr h6 h7 (pset_same _ _ _) k7 (fun r g1 g2=>by rw [pset_ne g1,pset_ne g2,pset_ne g2]) (fun r hr=>if_neg hr) (h5.imp (fun h=>h) fun h=>?_) (fun R' hR'=>?_) (fun j=>?_),fun r hT hn=>?_⟩
  ·rw [if_neg (Ne.symm k1)];exact h
  ·rw [if_pos rfl] at hR';cases hR'
  ·rw [if_pos rfl,hR]
   show none=_
   have:=k6 j
   rw [k5] at this
   rw [<-show getR R j=(some R).bind (fun R=>getR R j) from rfl,← this]
   unfold getR
   rw [List.getElem?_nil]
   rfl
  ·have hT':=fun e=>hT ((h3 r).2 e)
   have g1:r≠root:=fun e=>hT' (.inl e)
   have g2:r≠q:=fun e=>hT' (.inr (by rw [e,hR];simp))
   refine ⟨fun hc=>?_,by rw [pset_ne g1,pset_ne g2,pset_ne g2]⟩
   rcases hc with hc|hc
   ·exact g1 hc
   ·rw [if_neg g2] at hc;exact hT' (.inr hc)
 obtain ⟨K,hK⟩:∃ K:AV->ASt->Prop,K=fun r σ'=>∃ (pg':Pgs) (T':Nat->Prop),r = .int .i64 0/\HpAt pg' root T' (upH H id none)/\Fr T pg T' pg'/\PoolAt base σ' p m n pg':=⟨_,rfl⟩
 suffices hS:ACalls Tryz.prog 13 [.ptr hb 0,.int .u64 id] σ K by rw [hK] at hS;exact hS
 generalize (0::t:List UInt8)=u at *
 refine a13 (by simp) ?_
 simp (disch:=first|assumption|omega|(simp only [List.length_append,List.length_cons,List.length_nil];omega)) only [go_sem]
 refine boxC_by rfl fun X hX=>?_
 simp (disch:=first|assumption|omega|(simp only [List.length_append,List.length_cons,List.length_nil];omega)) only [go_sem]
 refine boxC_by rfl fun D hD=>?_
 have hcD:(AV.int .u64 (id:Int)).cells = [.int .u64 id]:=rfl
 rw [hcD]
 have hXD:X≠D:=fun e=>by rw [e,ASt.set_same] at hD;cases hD
 obtain ⟨bX,kX⟩:=h.away hX
 have t1:=h.box hX (.obj [.ptr hb 0])
 obtain ⟨bD,kD⟩:=t1.away hD
 rw [ASt.set_ne (Ne.symm hXD)] at bD
 have t2:=t1.box hD (.obj [.int .u64 id])
 have hX2:((base.set X (some (.obj [.ptr hb 0]))).set D (some (.obj [.int .u64 id]))) X=some (.obj [.ptr hb 0]):=by rw [ASt.set_ne hXD,ASt.set_same]
 have hD2:((base.set X (some (.obj [.ptr hb 0]))).set D (some (.obj [.int .u64 id]))) D=some (.obj [.int .u64 id]):=ASt.set_same _ _ _
 have hsub:Sub base ((base.set X (some (.obj [.ptr hb 0]))).set D (some (.obj [.int .u64 id]))):=((Sub.refl base).set bX).set bD
 generalize (base.set X (some (.obj [.ptr hb 0]))).set D (some (.obj [.int .u64 id]))=base2 at *
 generalize (σ.set X (some (.obj [.ptr hb 0]))).set D (some (.obj [.int .u64 id]))=σ2 at *
 have hh2:=hsub _ _ hh
 have hfd:=hpfind_ok t2 hh2 c3 c4 hRi hide
 have xs:=t2.at hX2
 have ds:=t2.at hD2
 simp (disch:=first|assumption|omega|(simp only [List.length_append,List.length_cons,List.length_nil];omega)) only [go_sem,xs,ds]
 refine hfd.mono ?_
 rintro v σ3 ⟨rfl,t3⟩
 have xs:=t3.at hX2
 have ds:=t3.at hD2
 have hst:=hpstate_ok t3 hh2 h1 h2
 simp (disch:=first|assumption|omega|(simp only [List.length_append,List.length_cons,List.length_nil];omega)) only [go_sem,h0,z0,hlt,xs,ds]
 refine hst.mono ?_
 rintro v σ4 ⟨⟨cnt,hcnt,rfl⟩,t4⟩
 have xs:=t4.at hX2
 have ds:=t4.at hD2
 simp (disch:=first|assumption|omega|(simp only [List.length_append,List.length_cons,List.length_nil];omega)) only [go_sem,xs,ds,e8,bits,p8,d8,wq]
 refine allocC_by fun L hL=>?_
 obtain ⟨bL,kL⟩:=t4.away hL
 have t5:=t4.box hL (.obj [.int .i64 0])
 have hXL:X≠L:=fun e=>by rw [<-e,hX2] at bL;cases bL
 have hDL:D≠L:=fun e=>by rw [<-e,hD2] at bL;cases bL
 have hX3:(base2.set L (some (.obj [.int .i64 0]))) X=some (.obj [.ptr hb 0]):=by rw [ASt.set_ne hXL];exact hX2
 have hD3:(base2.set L (some (.obj [.int .i64 0]))) D=some (.obj [.int .u64 id]):=by rw [ASt.set_ne hDL];exact hD2
 have hL3:(base2.set L (some (.obj [.int .i64 0]))) L=some (.obj [.int .i64 0]):=ASt.set_same _ _ _
 have bL0:base L=none:=by
  cases hc:base L with
  | none=>rfl
  | some r=>rw [hsub _ _ hc] at bL;cases bL
 have hsub3:Sub base (base2.set L (some (.obj [.int .i64 0]))):=hsub.set bL0
 have hset:(σ4.set L (some (.obj [.int .i64 0]))).set L (some (.obj [.int .i64 0]))=σ4.set L (some (.obj [.int .i64 0])):=ASt.set_set _ _ _ _
 simp (disch:=first|assumption|omega|(simp only [List.length_append,List.length_cons,List.length_nil];omega)) only [go_sem,hset,xs,ds,e8,bits,p8,d8,wq]
 generalize base2.set L (some (.obj [.int .i64 0]))=base3 at *
 generalize σ4.set L (some (.obj [.int .i64 0]))=σ5 at *
 have xs:=t5.at hX3
 have ds:=t5.at hD3
 have hh3:=hsub3 _ _ hh
 have hhs3:=t5.at hh3
 have hw:=hpwith_ok (K:=fun r base' s'=>r = .int .i64 0/\Sub base base'/\base' X=some (.obj [.ptr hb 0])/\∃ R',SP s' R'/\(∀ j,getR R' j=if j=i then none else getR R j)/\base' L=some (.obj [.int .i64 (liveR R')])) (cap := [.ptr D 0,.ptr L 0]) t5 c3 hok (fun fa xa c dirty σ1 hxa hck hc hp=>by
  have hXx:X≠xa:=fun e=>by rw [<-e,hX3] at hxa;cases hxa
  have hDx:D≠xa:=fun e=>by rw [<-e,hD3] at hxa;cases hxa
  have hLx:L≠xa:=fun e=>by rw [<-e,hL3] at hxa;cases hxa
  have bx:base xa=none:=by
   cases hc:base xa with
   | none=>rfl
   | some r=>rw [hsub3 _ _ hc] at hxa;cases hxa
  refine (hpdrop2_ok (D:=D) (L:=L) (i:=i) hp (ASt.set_same _ _ _) (.inr c3) hc hck (by rw [ASt.set_ne hDx];exact hD3) (by rw [ASt.set_ne hLx];exact hL3) kL (Ne.symm hDx) (Ne.symm hLx) c4 (by omega) (by omega) hRi).mono ?_
  rintro r σ6 ⟨rfl,b',R',g1,g2,g3⟩
  rw [ASt.set_set] at g3
  refine ⟨_,b',true,g3,by rw [ASt.set_ne (Ne.symm hLx),ASt.set_same],g1.hl,.inl rfl,⟨0,rfl⟩,rfl,((hsub3.set bx).set bL0).set bx,?_,R',g1,g2,?_⟩
  ·rw [ASt.set_ne hXx,ASt.set_ne hXL,ASt.set_ne hXx];exact hX3
  ·rw [ASt.set_ne hLx,ASt.set_same])
 simp (disch:=first|assumption|omega|(simp only [List.length_append,List.length_cons,List.length_nil];omega)) only [go_sem,xs,hhs3]
 refine hw.mono ?_
 rintro v σ6 ⟨base4,b1,⟨rfl,s4,x4,R1,g1,g2,l4⟩,t6⟩
 have xs:=t6.at x4
 have ls:=t6.at l4
 have hh4:=s4 _ _ hh
 have hhs4:=t6.at hh4
 have hroot6:pset pg q (some b1) root=some s0:=by rw [pset_ne (Ne.symm hqr)];exact h1
 by_cases hlive:liveR R1=0/\q≠cur
 ·have hl0:(liveR R1:Int)=0:=by omega
  have hqc:¬ (q:Int)=(cur:Int):=by omega
  have hgv:=plgive_ok t6 (pset_same _ q _)
  simp (disch:=first|assumption|omega|(simp only [List.length_append,List.length_cons,List.length_nil];omega)) only [go_sem,xs,ls,hl0,hqc,hhs4]
  refine hgv.mono ?_
  rintro v σ7 ⟨rfl,t7⟩
  have xs:=t7.at x4
  have hst2:=hpsetstate_ok (z:=(cnt:Int)-1) t7 hh4 (by rw [pset_ne (Ne.symm hqr)];exact hroot6) hcur
  simp (disch:=first|assumption|omega|(simp only [List.length_append,List.length_cons,List.length_nil];omega)) only [go_sem,xs]
  refine hst2.mono ?_
  rintro v σ8 ⟨rfl,s',rs',t8⟩
  obtain ⟨T',f2,f3⟩:=give b1 s' R1 hlive.2 (liveR_zero g1 hlive.1) g2 rs'
  simp (disch:=first|assumption|omega|(simp only [List.length_append,List.length_cons,List.length_nil];omega)) only [go_sem]
  refine retC_by (.refl _) (.refl _) ?_
  rw [hK]
  exact ⟨_,T',rfl,f2,f3,t8.sub s4 hcb⟩
 ·have hst2:=hpsetstate_ok (z:=(cnt:Int)-1) t6 hh4 hroot6 hcur
  by_cases hl0:liveR R1=0
  ·have hl0':(liveR R1:Int)=0:=by omega
   have hqc:(q:Int)=(cur:Int):=by
    have:q=cur:=Classical.byContradiction fun hn=>hlive ⟨hl0,hn⟩
    omega
   simp (disch:=first|assumption|omega|(simp only [List.length_append,List.length_cons,List.length_nil];omega)) only [go_sem,xs,ls,hl0',hqc]
   refine hst2.mono ?_
   rintro v σ8 ⟨rfl,s',rs',t8⟩
   obtain ⟨T',f2,f3⟩:=keep b1 s' R1 g1 g2 rs'
   simp (disch:=first|assumption|omega|(simp only [List.length_append,List.length_cons,List.length_nil];omega)) only [go_sem]
   refine retC_by (.refl _) (.refl _) ?_
   rw [hK]
   exact ⟨_,T',rfl,f2,f3,t8.sub s4 hcb⟩
  ·have hl0':¬ (liveR R1:Int)=0:=by omega
   simp (disch:=first|assumption|omega|(simp only [List.length_append,List.length_cons,List.length_nil];omega)) only [go_sem,xs,ls,hl0']
   refine hst2.mono ?_
   rintro v σ8 ⟨rfl,s',rs',t8⟩
   obtain ⟨T',f2,f3⟩:=keep b1 s' R1 g1 g2 rs'
   simp (disch:=first|assumption|omega|(simp only [List.length_append,List.length_cons,List.length_nil];omega)) only [go_sem]
   refine retC_by (.refl _) (.refl _) ?_
   rw [hK]
   exact ⟨_,T',rfl,f2,f3,t8.sub s4 hcb⟩
end
end Go.A
end
