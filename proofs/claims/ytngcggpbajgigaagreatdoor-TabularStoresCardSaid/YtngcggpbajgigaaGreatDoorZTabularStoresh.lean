/- Part 8 of what TabularStores leans on: Nq CodeNr Nr CodeNs Ns CodeNt Nt CodeNu Nu CodeNv Nv CodeNw Nw CodeNy CodeNz Nz CodeNza CodeNzb Nzb Nzc Nzd Nze Nzf CodeNzk Nzk CodeNzl Nzl CodeNzm Nzm CodeNzn. -/
import Derived.Test.YtngcggpbajgigaaGreatDoorProg
import Derived.KernelRfl
import Derived.Test.YtngcggpbajgigaaGreatDoorZTabularStoresg
set_option linter.defProp false
set_option linter.unusedSimpArgs false
set_option linter.unusedVariables false
set_option maxRecDepth 100000
section
attribute [local go_sem] reduceCtorEq Nat.reduceEqDiff Nat.reduceAdd Nat.reduceSub Nat.reduceMul Nat.reduceLeDiff Int.reduceLT Int.reduceLE Int.reduceEq Int.reduceNeg Int.reduceAdd Int.reduceSub Int.reduceMul true_imp_iff forall_const Nat.mul_one Int.reduceToNat Nat.reducePow Int.reducePow Bool.true_and Bool.false_and Bool.and_false
attribute [local go_sem ↓] reduceIte
namespace Go.A
open Go.Proofs
structure InnerM (σ0 σ:ASt) (n:Nat) (a d:AV) (ks ds:List Nat):Prop where
 kept:Kept σ0 σ
 new:σ0 n=none
 hn:σ n=some (.obj [.bool false,a,.sl .full [],d])
 ha:OwnR σ0 σ .u64 a ks
 hd:OwnR σ0 σ .i64 d ds
 na:blkV a≠some n
 nd:blkV d≠some n
 ad:∀ x,blkV a=some x->blkV d≠some x
section
variable {σ:ASt} {X n c:Nat} {b:List UInt8} {ks vs ds:List Nat}
set_option maxHeartbeats 2000000 in
theorem trenc_inner (hX:σ X=some (.obj (bytesAV b))) (hb:b.length=504) (hc:504<=c) (hn:NodeAt σ n false ks vs ds) (hnX:n≠X) (hd:ds.length=ks.length+1) (h2:2<=ds.length) (hm:ds.length<=40) (hku:u64L ks) (hdu:u32L ds) :
  ACalls Tryz.prog 33 [.msl X 0 504 c,.ptr n 0] σ fun r σ'=>r = .tuple []/\∃ b',TInner b' ks ds/\σ'=σ.set X (some (.obj (bytesAV b'))):=by
 obtain ⟨k1,k2,k3,hn⟩:=hn
 have hkl:=kv_len .u64 ks
 have hdl:=kv_len .i64 ds
 have hkg:=fun (i n:Nat) (h:ks[i]? = some n)=>kv_get (k := .u64) h
 have hdg:=fun (i n:Nat) (h:ds[i]? = some n)=>kv_get (k := .i64) h
 generalize kv .u64 ks=KS at *
 generalize kv .u64 vs=VS at *
 generalize kv .i64 ds=DS at *
 have w1:IntKind.wrap .u8 (ds.length:Int)=((UInt8.ofNat ds.length).toNat:Int):=w_ofNat _
 have p0:=put_byte (b:=b) (o:=0) 2
 have p1:=put_byte (b:=spl b 0 [2]) (o:=1) (UInt8.ofNat ds.length)
 have hbl:(bytesAV b).length=504:=by rw [kbytes_len];exact hb
 obtain ⟨b2,hb2⟩:∃ b2,b2=spl (spl b 0 [2]) 1 [UInt8.ofNat ds.length]:=⟨_,rfl⟩
 have l1:(spl b 0 [2]).length=504:=by rw [spl_len (by simp only [List.length_singleton];omega)];exact hb
 have l2:b2.length=504:=by rw [hb2,spl_len (by simp only [List.length_singleton];omega)];exact l1
 have g0:b2[0]? = some 2:=by
  rw [hb2,get_else (by simp only [List.length_singleton];omega) (by omega)]
  exact get_same (by omega)
 have g1:b2[1]? = some (UInt8.ofNat ds.length):=by
  rw [hb2]
  exact get_same (by omega)
 rw [<-hb2] at p1
 have hbl1:(bytesAV (spl b 0 [2])).length=504:=by rw [kbytes_len];exact l1
 clear hb2
 generalize hM1:bytesAV (spl b 0 [2])=M1 at *
 generalize hM0:bytesAV b=M0 at *
 have e1u:((2:UInt8).toNat:Int)=2:=rfl
 rw [e1u] at p0
 have hl0:0+1<=M0.length:=by omega
 have hl1:1+1<=M1.length:=by omega
 have z1:(1:Int).toNat=1:=rfl
 have z0:(0:Int).toNat=0:=rfl
 rw [List.take_zero,List.nil_append] at p0
 generalize hL:ds.length=L at *
 refine a33 (by simp) ?_
 simp (disch:=first|assumption|omega|(simp only [List.length_append,List.length_cons,List.length_nil];omega)) only [go_sem,hn,hdl,w1,hX,hl0,p0,hl1,p1,z0,z1,Nat.zero_add]
 obtain ⟨J,hJ⟩:∃ J:Nat->AFr->ASt->Prop,J=fun i a1 s2=>i<=L/\(a1 0 = .msl X 0 504 c/\a1 1 = .ptr n 0/\a1 68 = .sl k3 DS/\a1 69 = .int .i64 L/\a1 70 = .int .i64 i)/\∃ b',b'.length=504/\b'[0]? = some 2/\b'[1]? = some (UInt8.ofNat L) ∧
   (∀ (j d:Nat),j<i->ds[j]? = some d->bat b' (4+4*j) 4=le32 d)/\s2=σ.set X (some (.obj (bytesAV b'))):=⟨_,rfl⟩
 refine wp_loop_on J (fun i=>L-i) 0 ?_ ?_
 ·rw [hJ]
  refine ⟨Nat.zero_le _,?_,b2,l2,g0,g1,fun j k hj=>absurd hj (Nat.not_lt_zero _),rfl⟩
  simp (disch:=first|assumption|omega|(simp only [List.length_append,List.length_cons,List.length_nil];omega)) only [go_sem]
 intro i a1 s2 hj
 rw [hJ] at hj
 obtain ⟨hi,hf,b',hb',h0,h1,hdd,rfl⟩:=hj
 by_cases hlt:i<L
 ·have hlt':(i:Int)<(L:Int):=by omega
  obtain ⟨d,hd1⟩:∃ d,ds[i]? = some d:=⟨_,List.getElem?_eq_getElem (by omega)⟩
  have hg1:=hdg i d hd1
  have hs1:slV (false,1) (.msl X 0 504 c) (4+4*(i:Int)) 504=some (.msl X (4+4*i) (504-(4+4*i)) (c-(4+4*i))):=slV_page (o:=4+4*i) (by omega) hc
  have du:=hdu d (List.mem_of_getElem? hd1)
  have c1:=mput32_ok (σ:=σ.set X (some (.obj (bytesAV b')))) (B:=X) (o:=4+4*i) (n:=504-(4+4*i)) (c:=c-(4+4*i)) (v:=d) (ASt.set_same _ _ _) (by omega) (by omega) du
  obtain ⟨b3,hb3⟩:∃ b3,b3=spl b' (4+4*i) (le32 d):=⟨_,rfl⟩
  have l3:b3.length=504:=by rw [hb3,spl_len (by rw [le32_len];omega)];exact hb'
  rw [<-hb3,ASt.set_set] at c1
  have f3:∀ o n,o+n<=4+4*i\/4+4*i+4<=o->bat b3 o n=bat b' o n:=fun o n h=>by rw [hb3];exact bat_else (by rw [le32_len];omega) h
  have q3:bat b3 (4+4*i) 4=le32 d:=by rw [hb3];exact bat_same (by rw [le32_len];omega)
  have y0:b3[0]? = some 2:=by rw [hb3,get_else (by rw [le32_len];omega) (by omega)];exact h0
  have y1:b3[1]? = some (UInt8.ofNat L):=by rw [hb3,get_else (by rw [le32_len];omega) (by omega)];exact h1
  clear hb3
  have du':(d:Int)<=4294967295:=by omega
  simp (disch:=first|assumption|omega|(simp only [List.length_append,List.length_cons,List.length_nil];omega)) only [go_sem,hf,hlt',hg1,hs1,Int.toNat_natCast]
  refine c1.mono ?_
  rintro r σ1 ⟨rfl,rfl⟩
  simp (disch:=first|assumption|omega|(simp only [List.length_append,List.length_cons,List.length_nil];omega)) only [go_sem,hf]
  refine ⟨i+1,by omega,?_⟩
  rw [hJ]
  refine ⟨by omega,?_,b3,l3,y0,y1,fun j k' hj hk'=>?_,rfl⟩
  ·simp (disch:=first|assumption|omega|(simp only [List.length_append,List.length_cons,List.length_nil];omega)) only [go_sem,hf]
  ·by_cases hji:j=i
   ·subst hji
    rw [hd1] at hk'
    rw [<-Option.some.inj hk']
    exact q3
   ·rw [f3 _ _ (by omega)]
    exact hdd j k' (by omega) hk'
 ·have hlt':¬ (i:Int)<(L:Int):=by omega
  obtain rfl:i=L:=by omega
  simp (disch:=first|assumption|omega|(simp only [List.length_append,List.length_cons,List.length_nil];omega)) only [go_sem,hf,hlt',hn,hkl]
  generalize hW:ks.length=W at *
  obtain ⟨J2,hJ2⟩:∃ J:Nat->AFr->ASt->Prop,J=fun j a1 s2=>j<=W/\(a1 0 = .msl X 0 504 c/\a1 1 = .ptr n 0/\a1 87 = .sl k1 KS/\a1 88 = .int .i64 W/\a1 89 = .int .i64 j)/\∃ b',b'.length=504/\b'[0]? = some 2/\b'[1]? = some (UInt8.ofNat i) ∧
    (∀ (j d:Nat),ds[j]? = some d->bat b' (4+4*j) 4=le32 d)/\(∀ (t k:Nat),t<j->ks[t]? = some k->bat b' (164+8*t) 8=le64 k)/\s2=σ.set X (some (.obj (bytesAV b'))):=⟨_,rfl⟩
  refine wp_loop_on J2 (fun j=>W-j) 0 ?_ ?_
  ·rw [hJ2]
   refine ⟨Nat.zero_le _,?_,b',hb',h0,h1,fun j d hd'=>hdd j d (by have:=(List.getElem?_eq_some_iff.1 hd').1;omega) hd',fun j k hj=>absurd hj (Nat.not_lt_zero _),rfl⟩
   simp (disch:=first|assumption|omega|(simp only [List.length_append,List.length_cons,List.length_nil];omega)) only [go_sem,hf]
  intro j a2 s3 hj2
  rw [hJ2] at hj2
  obtain ⟨hjW,hf2,b1,hb1,h01,h11,hdd1,hkk,rfl⟩:=hj2
  by_cases hlt2:j<W
  ·have hlt2':(j:Int)<(W:Int):=by omega
   obtain ⟨k,hk1⟩:∃ k,ks[j]? = some k:=⟨_,List.getElem?_eq_getElem (by omega)⟩
   have hg1:=hkg j k hk1
   have hs1:slV (false,1) (.msl X 0 504 c) (164+8*(j:Int)) 504=some (.msl X (164+8*j) (504-(164+8*j)) (c-(164+8*j))):=slV_page (o:=164+8*j) (by omega) hc
   have ku:=hku k (List.mem_of_getElem? hk1)
   have c1:=mput64_ok (σ:=σ.set X (some (.obj (bytesAV b1)))) (B:=X) (o:=164+8*j) (n:=504-(164+8*j)) (c:=c-(164+8*j)) (v:=k) (ASt.set_same _ _ _) (by omega) (by omega) (by omega) ku
   obtain ⟨b3,hb3⟩:∃ b3,b3=spl b1 (164+8*j) (le64 k):=⟨_,rfl⟩
   have l3:b3.length=504:=by rw [hb3,spl_len (by rw [le64_len];omega)];exact hb1
   rw [<-hb3,ASt.set_set] at c1
   have f3:∀ o n,o+n<=164+8*j\/164+8*j+8<=o->bat b3 o n=bat b1 o n:=fun o n h=>by rw [hb3];exact bat_else (by rw [le64_len];omega) h
   have q3:bat b3 (164+8*j) 8=le64 k:=by rw [hb3];exact bat_same (by rw [le64_len];omega)
   have y0:b3[0]? = some 2:=by rw [hb3,get_else (by rw [le64_len];omega) (by omega)];exact h01
   have y1:b3[1]? = some (UInt8.ofNat i):=by rw [hb3,get_else (by rw [le64_len];omega) (by omega)];exact h11
   clear hb3
   simp (disch:=first|assumption|omega|(simp only [List.length_append,List.length_cons,List.length_nil];omega)) only [go_sem,hf2,hlt2',hg1,hs1,Int.toNat_natCast]
   refine c1.mono ?_
   rintro r σ1 ⟨rfl,rfl⟩
   simp (disch:=first|assumption|omega|(simp only [List.length_append,List.length_cons,List.length_nil];omega)) only [go_sem,hf2]
   refine ⟨j+1,by omega,?_⟩
   rw [hJ2]
   refine ⟨by omega,?_,b3,l3,y0,y1,fun t d hd'=>?_,fun t k' ht hk'=>?_,rfl⟩
   ·simp (disch:=first|assumption|omega|(simp only [List.length_append,List.length_cons,List.length_nil];omega)) only [go_sem,hf2]
   ·have:=(List.getElem?_eq_some_iff.1 hd').1
    rw [f3 _ _ (by omega)]
    exact hdd1 t d hd'
   ·by_cases htj:t=j
    ·subst htj
     rw [hk1] at hk'
     rw [<-Option.some.inj hk']
     exact q3
    ·rw [f3 _ _ (by omega)]
     exact hkk t k' (by omega) hk'
  ·have hlt2':¬ (j:Int)<(W:Int):=by omega
   obtain rfl:j=W:=by omega
   have hfin:TInner b1 ks ds:=⟨hb1,h01,by rw [hL];exact h11,by rw [hL,hW];exact hd,by rw [hL];exact h2,by rw [hL];exact hm,hku,hdu,fun t k hk'=>hkk t k (by have:=(List.getElem?_eq_some_iff.1 hk').1;omega) hk',hdd1⟩
   simp (disch:=first|assumption|omega|(simp only [List.length_append,List.length_cons,List.length_nil];omega)) only [go_sem,hf2,hlt2']
   exact retC_by (.refl _) (.refl _) ⟨rfl,b1,hfin,rfl⟩
set_option maxHeartbeats 2000000 in
theorem trdec_inner (hX:σ X=some (.obj (bytesAV b))) (hc:504<=c) (ht:TInner b ks ds) :
  ACalls Tryz.prog 92 [.msl X 0 504 c] σ fun r σ'=>∃ n x y,r = .tuple [.ptr n 0,.int .i64 0]/\InnerM σ σ' n x y ks ds:=by
 obtain ⟨hb,h0,h1,hn1,h2,hm,hku,hdu,hk,hd⟩:=ht
 have g0:(bytesAV b)[0]? = some (.int .u8 2):=by rw [bytesAV_get,h0];rfl
 have g1:(bytesAV b)[1]? = some (.int .u8 (ds.length:Int)):=by rw [bytesAV_get,h1];show some (AV.int .u8 ((UInt8.ofNat ds.length).toNat:Int))=_;rw [byte_small (by omega)]
 have hXb:=hX
 generalize hM:bytesAV b=M at hX g0 g1
 generalize hL:ds.length=L at *
 have hL':(L:Int)<=40:=by omega
 have hL2:(2:Int)<=(L:Int):=by omega
 have z0:(0:Int).toNat=0:=rfl
 have z1:(1:Int).toNat=1:=rfl
 refine a92 (by simp) ?_
 simp (disch:=first|assumption|omega|(simp only [List.length_append,List.length_cons,List.length_nil];omega)) only [go_sem,hX,g0,g1,z0,z1,Nat.zero_add]
 refine boxC_by rfl fun n hn=>?_
 simp (disch:=first|assumption|omega|(simp only [List.length_append,List.length_cons,List.length_nil];omega)) only [go_sem]
 have hXn:X≠n:=fun e=>by rw [e,hn] at hX;cases hX
 obtain ⟨J,hJ⟩:∃ J:Nat->AFr->ASt->Prop,J=fun i a1 s2=>i<=L/\(a1 0 = .msl X 0 504 c/\a1 7 = .ptr n 0/\a1 4 = .int .i64 L/\a1 76 = .int .i64 L/\a1 77 = .int .i64 i)/\∃ y,InnerM σ s2 n (.sl .full []) y [] (ds.take i):=⟨_,rfl⟩
 refine wp_loop_on J (fun i=>L-i) 0 ?_ ?_
 ·rw [hJ]
  refine ⟨Nat.zero_le _,?_,.sl .full [],⟨(Kept.refl σ).set hn,hn,ASt.set_same _ _ _,OwnR.nil _ _ _,OwnR.nil _ _ _,(by intro h;cases h),(by intro h;cases h),(by intro x h;cases h)⟩⟩
  simp (disch:=first|assumption|omega|(simp only [List.length_append,List.length_cons,List.length_nil];omega)) only [go_sem]
 intro i a1 s2 hj
 rw [hJ] at hj
 obtain ⟨hi,hf,y,hm2⟩:=hj
 have hs2n:=hm2.hn
 have hs2X:=hm2.kept _ _ hXb
 by_cases hlt:i<L
 ·have hlt':(i:Int)<(L:Int):=by omega
  obtain ⟨d,hd1⟩:∃ d,ds[i]? = some d:=⟨_,List.getElem?_eq_getElem (by omega)⟩
  have hs1:slV (false,1) (.msl X 0 504 c) (4+4*(i:Int)) 504=some (.msl X (4+4*i) (504-(4+4*i)) (c-(4+4*i))):=slV_page (o:=4+4*i) (by omega) hc
  have du:=hdu d (List.mem_of_getElem? hd1)
  have c1:=mu32_ok (c:=c-(4+4*i)) (n:=504-(4+4*i)) hs2X (hd i d hd1) (by omega) du
  have td:=take_snoc hd1
  have hld:(ds.take i).length<=10000:=by rw [List.length_take];omega
  have du':(d:Int)<=4294967295:=by omega
  simp (disch:=first|assumption|omega|(simp only [List.length_append,List.length_cons,List.length_nil];omega)) only [go_sem,hf,hlt',hs2n,hs1]
  refine c1.mono ?_
  rintro r s3 ⟨rfl,rfl⟩
  simp (disch:=first|assumption|omega|(simp only [List.length_append,List.length_cons,List.length_nil];omega)) only [go_sem,hs2n]
  refine hm2.hd.app (fun z hz=>hm2.kept.gone hz) (by omega) fun y' X1 r hx1 hor hown=>?_
  have hX1σ:σ X1=none:=by
   rcases hor with h|h
   ·exact (hm2.hd.blk h).2
   ·exact hm2.kept.gone h
  have hX1n:n≠X1:=by
   rcases hor with h|h
   ·exact fun e=>hm2.nd (by rw [e];exact h)
   ·exact fun e=>by rw [<-e,hs2n] at h;cases h
  rw [td] at hown
  have m3:InnerM σ ((s3.set X1 (some r)).set n (some (.obj [.bool false,.sl .full [],.sl .full [],y']))) n (.sl .full []) y' [] (ds.take (i+1)):=by
   refine ⟨(hm2.kept.set hX1σ).set hm2.new,hm2.new,ASt.set_same _ _ _,OwnR.nil _ _ _,hown.set (by rw [hx1];intro h;exact hX1n (Option.some.inj h).symm),hm2.na,by rw [hx1];intro h;exact hX1n (Option.some.inj h).symm,?_⟩
   intro z hz
   cases hz
  obtain ⟨xc,xl,xa⟩:=hown.cell
  simp (disch:=first|assumption|omega|(simp only [List.length_append,List.length_cons,List.length_nil];omega)) only [go_sem,hf,hs2n,xc,xl]
  refine ⟨i+1,by omega,?_⟩
  rw [hJ]
  refine ⟨by omega,?_,y',m3⟩
  simp (disch:=first|assumption|omega|(simp only [List.length_append,List.length_cons,List.length_nil];omega)) only [go_sem,hf]
 ·have hlt':¬ (i:Int)<(L:Int):=by omega
  obtain rfl:i=L:=by omega
  rw [List.take_of_length_le (by omega)] at hm2
  simp (disch:=first|assumption|omega|(simp only [List.length_append,List.length_cons,List.length_nil];omega)) only [go_sem,hf,hlt']
  have eW:(i:Int)-1=((i-1:Nat):Int):=by omega
  rw [eW]
  obtain ⟨W,hW⟩:∃ W,i-1=W:=⟨_,rfl⟩
  rw [hW]
  obtain ⟨J2,hJ2⟩:∃ J:Nat->AFr->ASt->Prop,J=fun j a1 s2=>j<=W/\(a1 0 = .msl X 0 504 c/\a1 7 = .ptr n 0/\a1 98 = .int .i64 W/\a1 99 = .int .i64 j)/\∃ x y,InnerM σ s2 n x y (ks.take j) ds:=⟨_,rfl⟩
  refine wp_loop_on J2 (fun j=>W-j) 0 ?_ ?_
  ·rw [hJ2]
   refine ⟨Nat.zero_le _,?_,.sl .full [],y,hm2⟩
   simp (disch:=first|assumption|omega|(simp only [List.length_append,List.length_cons,List.length_nil];omega)) only [go_sem,hf]
  intro j a2 s4 hj2
  rw [hJ2] at hj2
  obtain ⟨hjW,hf2,x,y2,hm4⟩:=hj2
  have hs4n:=hm4.hn
  have hs4X:=hm4.kept _ _ hXb
  by_cases hlt2:j<W
  ·have hlt2':(j:Int)<(W:Int):=by omega
   obtain ⟨k,hk1⟩:∃ k,ks[j]? = some k:=⟨_,List.getElem?_eq_getElem (by omega)⟩
   have hs1:slV (false,1) (.msl X 0 504 c) (164+8*(j:Int)) 504=some (.msl X (164+8*j) (504-(164+8*j)) (c-(164+8*j))):=slV_page (o:=164+8*j) (by omega) hc
   have ku:=hku k (List.mem_of_getElem? hk1)
   have c1:=mu64_ok (c:=c-(164+8*j)) (n:=504-(164+8*j)) hs4X (hk j k hk1) (by omega) (by omega) ku
   have tk:=take_snoc hk1
   have hlk:(ks.take j).length<=10000:=by rw [List.length_take];omega
   simp (disch:=first|assumption|omega|(simp only [List.length_append,List.length_cons,List.length_nil];omega)) only [go_sem,hf2,hlt2',hs4n,hs1]
   refine c1.mono ?_
   rintro r s5 ⟨rfl,rfl⟩
   simp (disch:=first|assumption|omega|(simp only [List.length_append,List.length_cons,List.length_nil];omega)) only [go_sem,hs4n]
   refine hm4.ha.app (fun z hz=>hm4.kept.gone hz) (by omega) fun x' X1 r hx1 hor hown=>?_
   have hX1σ:σ X1=none:=by
    rcases hor with h|h
    ·exact (hm4.ha.blk h).2
    ·exact hm4.kept.gone h
   have hX1n:n≠X1:=by
    rcases hor with h|h
    ·exact fun e=>hm4.na (by rw [e];exact h)
    ·exact fun e=>by rw [<-e,hs4n] at h;cases h
   have hX1y:blkV y2≠some X1:=by
    rcases hor with h|h
    ·exact hm4.ad _ h
    ·intro hy
     obtain ⟨⟨cs,h2⟩,_⟩:=hm4.hd.blk hy
     rw [h] at h2;cases h2
   rw [tk] at hown
   have m5:InnerM σ ((s5.set X1 (some r)).set n (some (.obj [.bool false,x',.sl .full [],y2]))) n x' y2 (ks.take (j+1)) ds:=by
    refine ⟨(hm4.kept.set hX1σ).set hm4.new,hm4.new,ASt.set_same _ _ _,hown.set (by rw [hx1];intro h;exact hX1n (Option.some.inj h).symm),(hm4.hd.set hX1y).set hm4.nd,by rw [hx1];intro h;exact hX1n (Option.some.inj h).symm,hm4.nd,?_⟩
    intro z hz
    rw [hx1] at hz
    rw [<-Option.some.inj hz]
    exact hX1y
   obtain ⟨xc,xl,xa⟩:=hown.cell
   simp (disch:=first|assumption|omega|(simp only [List.length_append,List.length_cons,List.length_nil];omega)) only [go_sem,hf2,hs4n,xc,xl]
   refine ⟨j+1,by omega,?_⟩
   rw [hJ2]
   refine ⟨by omega,?_,x',y2,m5⟩
   simp (disch:=first|assumption|omega|(simp only [List.length_append,List.length_cons,List.length_nil];omega)) only [go_sem,hf2]
  ·have hlt2':¬ (j:Int)<(W:Int):=by omega
   obtain rfl:j=W:=by omega
   rw [List.take_of_length_le (by omega)] at hm4
   simp (disch:=first|assumption|omega|(simp only [List.length_append,List.length_cons,List.length_nil];omega)) only [go_sem,hf2,hlt2']
   exact retC_by (.refl _) (.refl _) ⟨n,x,y2,rfl,hm4⟩
end
end Go.A
namespace Go.A
open Go.Proofs
/-! 38: (*tabular/tree.Tree).load -/
def c38_12:ACode := .seq (.ops [ oq 4 (.mv (.v .nilp)),oq 5 (.mv (.v (.int .i64 0)))]) (.seq (.ops [ oq 9 (.mv (.t 0)),oq 10 (.nc (.t 9)),oq 11 (.fa 0 (.t 10)),oq 12 (.ld none (.t 11)),oq 13 (.mv (.t 1)),oe 14 (.call 72 [(.t 12),(.t 13)]),oq 8 (.mv (.t 14)),oq 15 (.ext 0 (.t 8)),oq 16 (.ext 1 (.t 8)),oq 6 (.mv (.t 15)),oq 7 (.mv (.t 16))]) (.seq (.seq (.ops [ oq 17 (.mv (.t 7)),oq 18 (.bin .neq (.t 17) (.v (.int .i64 0)))]) (.cond (.t 18) (.seq (.ops [ oq 19 (.mv (.t 7)),oq 4 (.mv (.v .nilp)),oq 5 (.mv (.t 19))]) .ret) .skip)) (.dfr 31 (.t 6) 20 (.seq (.ops [ oq 21 (.mv (.t 6)),oe 22 (.call 50 [(.t 21)]),oe 23 (.call 92 [(.t 22)]),oq 24 (.ext 0 (.t 23)),oq 25 (.ext 1 (.t 23)),oq 4 (.mv (.t 24)),oq 5 (.mv (.t 25))]) .ret))))
@[go_sem] def c38_12_wp:=wp_of c38_12.eq_1
def c38:AFn:=⟨26,[.t 4,.t 5],c38_12⟩
theorem c38_ok:compF Tryz.prog Tryz.f38=some c38:=by kernel_rfl
theorem a38 {args:List AV} {σ:ASt} {R:AV->ASt->Prop} (hl:args.length<=26) (h:c38_12.wp Tryz.prog (RetQ [.t 4,.t 5] R) (init args) σ):ACalls Tryz.prog 38 args σ R:=acalls_of Tryz.func38 c38_ok hl h
end Go.A
namespace Go.A
open Go.Proofs
inductive TN where
 | leaf (ks vs:List Nat)
 | inner (ks ds:List Nat)
def TN.ok:TN->Prop
 | .leaf ks vs=>vs.length=ks.length/\ks.length<=30/\u64L ks/\u64L vs
 | .inner ks ds=>ds.length=ks.length+1/\2<=ds.length/\ds.length<=40/\u64L ks/\u32L ds
def TPg (b:List UInt8):TN->Prop
 | .leaf ks vs=>TLeaf b ks vs
 | .inner ks ds=>TInner b ks ds
def NodeR (r:Role):TN->Prop
 | .leaf ks vs=>∃ k1 k2 k3,r = .obj [.bool true,.sl k1 (kv .u64 ks),.sl k2 (kv .u64 vs),.sl k3 []]
 | .inner ks ds=>∃ k1 k2 k3,r = .obj [.bool false,.sl k1 (kv .u64 ks),.sl k2 [],.sl k3 (kv .i64 ds)]
def NodeOf (σ:ASt) (n:Nat) (nd:TN):Prop:=∃ r,σ n=some r/\NodeR r nd
theorem TPg.len {b:List UInt8} {nd:TN} (h:TPg b nd):b.length=504:=by
 cases nd with
 | leaf=>exact TLeaf.len h
 | inner=>exact TInner.len h
theorem trenc_ok {σ:ASt} {X n c:Nat} {b:List UInt8} {nd:TN} (hX:σ X=some (.obj (bytesAV b))) (hb:b.length=504) (hc:504<=c) (hn:NodeOf σ n nd) (hnX:n≠X) (ho:nd.ok) :
  ACalls Tryz.prog 33 [.msl X 0 504 c,.ptr n 0] σ fun r σ'=>r = .tuple []/\∃ b',TPg b' nd/\σ'=σ.set X (some (.obj (bytesAV b'))):=by
 obtain ⟨r,hn,hr⟩:=hn
 cases nd with
 | leaf ks vs=>
   obtain ⟨k1,k2,k3,rfl⟩:=hr
   obtain ⟨o1,o2,o3,o4⟩:=ho
   exact trenc_leaf (ds := []) hX hb hc ⟨k1,k2,k3,hn⟩ hnX o1 o2 o3 o4
 | inner ks ds=>
   obtain ⟨k1,k2,k3,rfl⟩:=hr
   obtain ⟨o1,o2,o3,o4,o5⟩:=ho
   exact trenc_inner (vs := []) hX hb hc ⟨k1,k2,k3,hn⟩ hnX o1 o2 o3 o4 o5
noncomputable def addB (base σ:ASt) (P:Nat->Prop):ASt:=open Classical in fun z=>if P z then σ z else base z
theorem addB_in {base σ:ASt} {P:Nat->Prop} {z:Nat} (h:P z):addB base σ P z=σ z:=if_pos h
theorem addB_out {base σ:ASt} {P:Nat->Prop} {z:Nat} (h:¬ P z):addB base σ P z=base z:=if_neg h
theorem Beside.grow {base σ σ':ASt} {P:Nat->Prop} (he:∀ x r,base x=some r->σ x=some r) (hk:Kept σ σ') (hP:∀ z,P z->σ z=none):Beside base σ (addB base σ' P) σ':=by
 refine ⟨fun x r _ hx=>hk x r hx,fun x r hx=>?_,fun x r hx hy=>?_⟩
 ·by_cases h:P x
  ·rw [addB_in h] at hx;exact hx
  ·rw [addB_out h] at hx;exact hk x r (he x r hx)
 ·by_cases h:P x
  ·rw [hP x h] at hy;cases hy
  ·rw [addB_out h];exact hx
section
variable {base σ σ':ASt} {p k page fa xa c t root:Nat} {m:PX} {pg:Pgs} {dirty:Bool} {b:List UInt8} {nd:TN}
theorem PinAt.grow (h:PinAt base σ p m k pg page fa xa c dirty) {P:Nat->Prop} (hk:Kept σ σ') (hP:∀ z,P z->σ z=none):PinAt (addB base σ' P) σ' p m k pg page fa xa c dirty:=
 h.frame (Beside.grow (fun x r=>h.at) hk hP) (by
  have hc:=h.ck
  unfold CkT at hc ⊢
  rw [addB_out (fun hp=>absurd ((hP _ hp).symm.trans (h.at hc)) (by simp))]
  exact hc)
def nodeB (n:Nat) (x y:AV):Nat->Prop:=fun z=>z=n\/blkV x=some z\/blkV y=some z
def Only (base base':ASt) (P:Nat->Prop):Prop:=∀ z,¬ P z->base' z=base z
theorem pset_id {g:Pgs} {q:Nat} {v:Option (List UInt8)} (h:g q=v):pset g q v=g:=by
 funext z
 unfold pset
 split
 ·rename_i e;rw [e,h]
 ·rfl
theorem set_none_id {base:ASt} {x:Nat} {r:Option Role} (h:base x=none):(base.set x r).set x none=base:=by
 funext z
 by_cases hz:z=x
 ·rw [hz,ASt.set_same,h]
 ·rw [ASt.set_ne hz,ASt.set_ne hz]
theorem addB_drop {base σ:ASt} {P:Nat->Prop} {x:Nat} {r:Option Role} (h:base x=none) (hP:¬ P x):(addB (base.set x r) σ P).set x none=addB base σ P:=by
 funext z
 by_cases hz:z=x
 ·rw [hz,ASt.set_same,addB_out hP,h]
 ·rw [ASt.set_ne hz]
  by_cases hp:P z
  ·rw [addB_in hp,addB_in hp]
  ·rw [addB_out hp,addB_out hp,ASt.set_ne hz]
set_option maxHeartbeats 1000000 in
theorem trload_leafM {ks vs:List Nat} (h:PoolAt base σ p m k pg) (ht:base t=some (.obj [.ptr p 0,.int .i64 root])) (hq:pg page=some b) (hl:TLeaf b ks vs) :
  ACalls Tryz.prog 38 [.ptr t 0,.int .i64 page] σ fun r σ'=>∃ n x y base',r = .tuple [.ptr n 0,.int .i64 0]/\LeafM base base' n x y ks vs/\Only base base' (nodeB n x y)/\PoolAt base' σ' p m k pg:=by
 have hts:=h.at ht
 refine a38 (by simp) ?_
 simp (disch:=first|assumption|omega|(simp only [List.length_append,List.length_cons,List.length_nil];omega)) only [go_sem,hts]
 refine (plpin_ok h hq).mono ?_
 rintro v σ1 ⟨fa,xa,c,dirty,rfl,hxa,hck,hc,h1⟩
 have hX:=h1.at (ASt.set_same base xa (some (.obj (bytesAV b))))
 have hbt:=plbytes_ok h1
 have hdec:=trdec_leaf hX hc hl
 simp (disch:=first|assumption|omega|(simp only [List.length_append,List.length_cons,List.length_nil];omega)) only [go_sem]
 refine hbt.mono ?_
 rintro v σ2 ⟨rfl,rfl⟩
 simp (disch:=first|assumption|omega|(simp only [List.length_append,List.length_cons,List.length_nil];omega)) only [go_sem]
 refine hdec.mono ?_
 rintro v σ3 ⟨n,x,y,rfl,hm⟩
 have hP:∀ z,nodeB n x y z->σ2 z=none:=by
  rintro z (rfl|hz|hz)
  ·exact hm.new
  ·exact (hm.ha.blk hz).2
  ·exact (hm.hb.blk hz).2
 have hPx:¬ nodeB n x y xa:=fun hp=>by rw [hP _ hp] at hX;cases hX
 have h3:=h1.grow (P:=nodeB n x y) hm.kept hP
 have hbx:addB (base.set xa (some (.obj (bytesAV b)))) σ3 (nodeB n x y) xa=some (.obj (bytesAV b)):=by rw [addB_out hPx];exact ASt.set_same _ _ _
 have hun:=plunpin_d h3 hbx hl.len (.inr hq) hck
 rw [addB_drop hxa hPx,pset_id hq] at hun
 have hin:∀ z,nodeB n x y z->base z=none:=fun z hz=>by
  cases hc2:base z with
  | none=>rfl
  | some r=>
    have:z≠xa:=fun e=>hPx (e▸hz)
    have:=h1.at ((ASt.set_ne (σ:=base) (r:=some (.obj (bytesAV b))) this).trans hc2)
    rw [hP z hz] at this;cases this
 have hm2:LeafM base (addB base σ3 (nodeB n x y)) n x y ks vs:=by
  refine ⟨fun z r hz=>?_,hin n (.inl rfl),by rw [addB_in (.inl rfl)];exact hm.hn,?_,?_,hm.na,hm.nb,hm.ab⟩
  ·rw [addB_out (fun hp=>by rw [hin z hp] at hz;cases hz)];exact hz
  ·rcases hm.ha with ⟨rfl,rfl⟩|⟨X,cc,R,rfl,q1,q2,q3⟩
   ·exact .inl ⟨rfl,rfl⟩
   ·exact .inr ⟨X,cc,R,rfl,by rw [addB_in (.inr (.inl rfl))];exact q1,hin X (.inr (.inl rfl)),q3⟩
  ·rcases hm.hb with ⟨rfl,rfl⟩|⟨X,cc,R,rfl,q1,q2,q3⟩
   ·exact .inl ⟨rfl,rfl⟩
   ·exact .inr ⟨X,cc,R,rfl,by rw [addB_in (.inr (.inr rfl))];exact q1,hin X (.inr (.inr rfl)),q3⟩
 simp (disch:=first|assumption|omega|(simp only [List.length_append,List.length_cons,List.length_nil];omega)) only [go_sem]
 refine hun.mono ?_
 rintro v σ4 ⟨rfl,h4⟩
 exact retC_by (.refl _) (.refl _) ⟨n,x,y,_,rfl,hm2,fun z hz=>addB_out hz,h4⟩
set_option maxHeartbeats 1000000 in
theorem trload_innerM {ks ds:List Nat} (h:PoolAt base σ p m k pg) (ht:base t=some (.obj [.ptr p 0,.int .i64 root])) (hq:pg page=some b) (hl:TInner b ks ds) :
  ACalls Tryz.prog 38 [.ptr t 0,.int .i64 page] σ fun r σ'=>∃ n x y base',r = .tuple [.ptr n 0,.int .i64 0]/\InnerM base base' n x y ks ds/\Only base base' (nodeB n x y)/\PoolAt base' σ' p m k pg:=by
 have hts:=h.at ht
 refine a38 (by simp) ?_
 simp (disch:=first|assumption|omega|(simp only [List.length_append,List.length_cons,List.length_nil];omega)) only [go_sem,hts]
 refine (plpin_ok h hq).mono ?_
 rintro v σ1 ⟨fa,xa,c,dirty,rfl,hxa,hck,hc,h1⟩
 have hX:=h1.at (ASt.set_same base xa (some (.obj (bytesAV b))))
 have hbt:=plbytes_ok h1
 have hdec:=trdec_inner hX hc hl
 simp (disch:=first|assumption|omega|(simp only [List.length_append,List.length_cons,List.length_nil];omega)) only [go_sem]
 refine hbt.mono ?_
 rintro v σ2 ⟨rfl,rfl⟩
 simp (disch:=first|assumption|omega|(simp only [List.length_append,List.length_cons,List.length_nil];omega)) only [go_sem]
 refine hdec.mono ?_
 rintro v σ3 ⟨n,x,y,rfl,hm⟩
 have hP:∀ z,nodeB n x y z->σ2 z=none:=by
  rintro z (rfl|hz|hz)
  ·exact hm.new
  ·exact (hm.ha.blk hz).2
  ·exact (hm.hd.blk hz).2
 have hPx:¬ nodeB n x y xa:=fun hp=>by rw [hP _ hp] at hX;cases hX
 have h3:=h1.grow (P:=nodeB n x y) hm.kept hP
 have hbx:addB (base.set xa (some (.obj (bytesAV b)))) σ3 (nodeB n x y) xa=some (.obj (bytesAV b)):=by rw [addB_out hPx];exact ASt.set_same _ _ _
 have hun:=plunpin_d h3 hbx hl.len (.inr hq) hck
 rw [addB_drop hxa hPx,pset_id hq] at hun
 have hin:∀ z,nodeB n x y z->base z=none:=fun z hz=>by
  cases hc2:base z with
  | none=>rfl
  | some r=>
    have:z≠xa:=fun e=>hPx (e▸hz)
    have:=h1.at ((ASt.set_ne (σ:=base) (r:=some (.obj (bytesAV b))) this).trans hc2)
    rw [hP z hz] at this;cases this
 have hm2:InnerM base (addB base σ3 (nodeB n x y)) n x y ks ds:=by
  refine ⟨fun z r hz=>?_,hin n (.inl rfl),by rw [addB_in (.inl rfl)];exact hm.hn,?_,?_,hm.na,hm.nd,hm.ad⟩
  ·rw [addB_out (fun hp=>by rw [hin z hp] at hz;cases hz)];exact hz
  ·rcases hm.ha with ⟨rfl,rfl⟩|⟨X,cc,R,rfl,q1,q2,q3⟩
   ·exact .inl ⟨rfl,rfl⟩
   ·exact .inr ⟨X,cc,R,rfl,by rw [addB_in (.inr (.inl rfl))];exact q1,hin X (.inr (.inl rfl)),q3⟩
  ·rcases hm.hd with ⟨rfl,rfl⟩|⟨X,cc,R,rfl,q1,q2,q3⟩
   ·exact .inl ⟨rfl,rfl⟩
   ·exact .inr ⟨X,cc,R,rfl,by rw [addB_in (.inr (.inr rfl))];exact q1,hin X (.inr (.inr rfl)),q3⟩
 simp (disch:=first|assumption|omega|(simp only [List.length_append,List.length_cons,List.length_nil];omega)) only [go_sem]
 refine hun.mono ?_
 rintro v σ4 ⟨rfl,h4⟩
 exact retC_by (.refl _) (.refl _) ⟨n,x,y,_,rfl,hm2,fun z hz=>addB_out hz,h4⟩
end
end Go.A
namespace Go.A
open Go.Proofs
/-! 65: (*tabular/tree.Tree).fresh -/
/-! 66: (*tabular/tree.Tree).store -/
def c66_14:ACode := .seq (.ops [ oq 6 (.mv (.v (.int .i64 0)))]) (.seq (.ops [ oq 10 (.mv (.t 0)),oq 11 (.nc (.t 10)),oq 12 (.fa 0 (.t 11)),oq 13 (.ld none (.t 12)),oq 14 (.mv (.t 1)),oe 15 (.call 72 [(.t 13),(.t 14)]),oq 9 (.mv (.t 15)),oq 16 (.ext 0 (.t 9)),oq 17 (.ext 1 (.t 9)),oq 7 (.mv (.t 16)),oq 8 (.mv (.t 17))]) (.seq (.seq (.ops [ oq 18 (.mv (.t 8)),oq 19 (.bin .neq (.t 18) (.v (.int .i64 0)))]) (.cond (.t 19) (.seq (.ops [ oq 20 (.mv (.t 8)),oq 6 (.mv (.t 20))]) .ret) .skip)) (.dfr 31 (.t 7) 21 (.seq (.ops [ oq 22 (.mv (.t 7)),oe 23 (.call 34 [(.t 22)]),oq 24 (.mv (.t 2)),oe 25 (.call 33 [(.t 23),(.t 24)])]) (.seq (.ops [ oq 6 (.mv (.v (.int .i64 0)))]) .ret)))))
@[go_sem] def c66_14_wp:=wp_of c66_14.eq_1
def c66:AFn:=⟨26,[.t 6],c66_14⟩
theorem c66_ok:compF Tryz.prog Tryz.f66=some c66:=by kernel_rfl
theorem a66 {args:List AV} {σ:ASt} {R:AV->ASt->Prop} (hl:args.length<=26) (h:c66_14.wp Tryz.prog (RetQ [.t 6] R) (init args) σ):ACalls Tryz.prog 66 args σ R:=acalls_of Tryz.func66 c66_ok hl h
end Go.A
namespace Go.A
open Go.Proofs
def kkOf:AV->SK
 | .msl _ _ _ _ => .shr
 | _ => .full
theorem OwnR.look' {σ0 σ σ':ASt} {k:IntKind} {v:AV} {l:List Nat} (h:OwnR σ0 σ k v l) (hn:∀ X,blkV v=some X->σ' X=none):Fz σ σ' v (.sl (kkOf v) (kv k l)):=by
 rcases h with ⟨rfl,rfl⟩|⟨X,c,R,rfl,h1,h2,h3,h4,h5⟩
 ·exact .refl _
 ·refine .msl (cs:=kv k l++R) 0 l.length c 1 (kv k l) h1 (hn X rfl) (kv_len k l).symm h3 (fun x hx=>by rw [kv_cells hx];rfl) ?_
  rw [kv_flat,List.drop_zero,Nat.mul_one,← kv_len k l,List.take_left]
section
variable {base base' σ σ':ASt} {p k page fa xa c t root n:Nat} {m:PX} {pg:Pgs} {dirty:Bool} {b:List UInt8} {nd:TN}
theorem OwnR.in {v:AV} {kk:IntKind} {l:List Nat} (h:OwnR base base' kk v l) {X:Nat} (hX:blkV v=some X):base X=none/\∃ r,base' X=some r:=by
 obtain ⟨⟨cs,h1⟩,h2⟩:=h.blk hX
 exact ⟨h2,_,h1⟩
open Classical in
theorem node_soft {x y:AV} {kx ky:IntKind} {lx ly:List Nat} {cs cs':List AV} (kept:Kept base base') (new:base n=none) (hn:base' n=some (.obj cs)) (hx:OwnR base base' kx x lx) (hy:OwnR base base' ky y ly)
  (nx:blkV x≠some n) (ny:blkV y≠some n) (hcb:CkT base) (hp:PoolAt base' σ p m k pg) (hcs:∀ σ2,Fz σ σ2 x (.sl (kkOf x) (kv kx lx))->Fz σ σ2 y (.sl (kkOf y) (kv ky ly))->Fzs σ σ2 cs cs') :
  ∃ σ2,GDrop σ σ2/\σ2 n=some (.obj cs')/\PoolAt (base.set n (some (.obj cs'))) σ2 p m k pg:=by
 have hσn:=hp.at hn
 obtain ⟨σ2,hσ2⟩:∃ σ2:ASt,σ2=fun z=>if z=n then some (.obj cs') else if blkV x=some z\/blkV y=some z then none else σ z:=⟨_,rfl⟩
 have e1:σ2 n=some (.obj cs'):=by rw [hσ2];exact if_pos rfl
 have e2:∀ z,z≠n->(blkV x=some z\/blkV y=some z)->σ2 z=none:=fun z hz hb=>by rw [hσ2];show (if _ then _ else _)=_;rw [if_neg hz,if_pos hb]
 have e3:∀ z,z≠n->¬ (blkV x=some z\/blkV y=some z)->σ2 z=σ z:=fun z hz hb=>by rw [hσ2];show (if _ then _ else _)=_;rw [if_neg hz,if_neg hb]
 have own:∀ {k:IntKind} {v:AV} {l:List Nat},OwnR base base' k v l->OwnR base σ k v l:=fun {k v l} ho=>ho.mono fun X r hX hr=>hp.at hr
 have hz:=hcs σ2 ((own hx).look' fun X hX=>e2 X (fun e=>nx (by rw [hX,e])) (.inl hX)) ((own hy).look' fun X hX=>e2 X (fun e=>ny (by rw [hX,e])) (.inr hX))
 have hblk:∀ z,(blkV x=some z\/blkV y=some z)->base z=none/\∃ r,base' z=some r:=fun z hb=>hb.elim (fun h=>hx.in h) (fun h=>hy.in h)
 refine ⟨σ2,fun z=>?_,e1,hp.frame ⟨fun z r h1 h2=>?_,fun z r h1=>?_,fun z r h1 h2=>?_⟩ ?_⟩
 ·by_cases hzn:z=n
  ·subst hzn
   exact .inr (.inr ⟨cs,cs',hσn,e1,hz⟩)
  ·by_cases hb:blkV x=some z\/blkV y=some z
   ·exact .inr (.inl (e2 z hzn hb))
   ·exact .inl (e3 z hzn hb)
 ·have hzn:z≠n:=fun e=>by rw [e,hn] at h1;cases h1
  have hb:¬ (blkV x=some z\/blkV y=some z):=fun hb=>by
   obtain ⟨_,r,h3⟩:=hblk z hb
   rw [h1] at h3;cases h3
  rw [e3 z hzn hb];exact h2
 ·by_cases hzn:z=n
  ·subst hzn
   rw [ASt.set_same] at h1
   rw [e1];exact h1
  ·rw [ASt.set_ne hzn] at h1
   have hb:¬ (blkV x=some z\/blkV y=some z):=fun hb=>by
    have:=(hblk z hb).1
    rw [h1] at this;cases this
   rw [e3 z hzn hb]
   exact hp.at (kept z r h1)
 ·have hzn:z≠n:=fun e=>by rw [e,hn] at h1;cases h1
  rw [ASt.set_ne hzn]
  cases hc:base z with
  | none=>rfl
  | some q=>rw [kept z q hc] at h1;cases h1
 ·exact hcb.away fun e=>by
   have:=hp.at (kept _ _ hcb)
   unfold CkT at hcb
   rw [<-e,new] at hcb;cases hcb
theorem LeafM.soft {x y:AV} {ks vs:List Nat} (h:LeafM base base' n x y ks vs) (hcb:CkT base) (hp:PoolAt base' σ p m k pg):∃ σ2 r,GDrop σ σ2/\NodeR r (.leaf ks vs)/\σ2 n=some r/\PoolAt (base.set n (some r)) σ2 p m k pg:=by
 obtain ⟨σ2,h1,h2,h3⟩:=node_soft (cs' := [.bool true,.sl (kkOf x) (kv .u64 ks),.sl (kkOf y) (kv .u64 vs),.sl .full []]) h.kept h.new h.hn h.ha h.hb h.na h.nb hcb hp fun σ2 f1 f2 => .cons (.refl _) (.cons f1 (.cons f2 (.cons (.refl _) .nil)))
 exact ⟨σ2,_,h1,⟨_,_,_,rfl⟩,h2,h3⟩
theorem InnerM.soft {x y:AV} {ks ds:List Nat} (h:InnerM base base' n x y ks ds) (hcb:CkT base) (hp:PoolAt base' σ p m k pg):∃ σ2 r,GDrop σ σ2/\NodeR r (.inner ks ds)/\σ2 n=some r/\PoolAt (base.set n (some r)) σ2 p m k pg:=by
 obtain ⟨σ2,h1,h2,h3⟩:=node_soft (cs' := [.bool false,.sl (kkOf x) (kv .u64 ks),.sl .full [],.sl (kkOf y) (kv .i64 ds)]) h.kept h.new h.hn h.ha h.hd h.na h.nd hcb hp fun σ2 f1 f2 => .cons (.refl _) (.cons f1 (.cons (.refl _) (.cons f2 .nil)))
 exact ⟨σ2,_,h1,⟨_,_,_,rfl⟩,h2,h3⟩
theorem trload_ok (h:PoolAt base σ p m k pg) (ht:base t=some (.obj [.ptr p 0,.int .i64 root])) (hq:pg page=some b) (hl:TPg b nd) :
  ACalls Tryz.prog 38 [.ptr t 0,.int .i64 page] σ fun r σ'=>∃ n q,r = .tuple [.ptr n 0,.int .i64 0]/\base n=none/\NodeR q nd/\PoolAt (base.set n (some q)) σ' p m k pg:=by
 cases nd with
 | leaf ks vs=>
   refine (trload_leafM h ht hq hl).post ?_
   rintro v σ1 ⟨n,x,y,base',rfl,hm,_,hp⟩
   obtain ⟨σ2,r,h1,h2,h3,h4⟩:=hm.soft h.ck hp
   exact ⟨_,σ2,h1.wkv (.refl _),n,r,rfl,hm.new,h2,h4⟩
 | inner ks ds=>
   refine (trload_innerM h ht hq hl).post ?_
   rintro v σ1 ⟨n,x,y,base',rfl,hm,_,hp⟩
   obtain ⟨σ2,r,h1,h2,h3,h4⟩:=hm.soft h.ck hp
   exact ⟨_,σ2,h1.wkv (.refl _),n,r,rfl,hm.new,h2,h4⟩
theorem ck_ne (h:CkT base) (hn:base n=none):n≠0:=fun e=>by
 unfold CkT at h
 rw [<-e,hn] at h;cases h
theorem trload_i (h:PoolAt base σ p m k pg) (ht:base t=some (.obj [.ptr p 0,.int .i64 root])) (hq:pg page=some b) (hl:TPg b nd) :
  ACalls Tryz.prog 38 [.ptr t 0,.int .i64 page] σ fun r σ'=>∃ cs,r = .tuple [.imm cs,.int .i64 0]/\NodeR (.obj cs) nd/\PoolAt base σ' p m k pg:=by
 refine (trload_ok h ht hq hl).post ?_
 rintro v σ1 ⟨n,q,rfl,hn,hr,hp⟩
 obtain ⟨cs,rfl⟩:∃ cs,q = .obj cs:=by
  cases nd with
  | leaf=>obtain ⟨_,_,_,rfl⟩:=hr;exact ⟨_,rfl⟩
  | inner=>obtain ⟨_,_,_,rfl⟩:=hr;exact ⟨_,rfl⟩
 have hσ:=hp.at (ASt.set_same base n (some (.obj cs)))
 have hd:Drop σ1 (σ1.set n none):=fun z=>by
  by_cases hz:z=n
  ·rw [hz,ASt.set_same];exact .inr rfl
  ·rw [ASt.set_ne hz];exact .inl rfl
 have h2:=hp.set (x:=n) none (.inl (by rw [ASt.set_same];simp)) (ck_ne h.ck hn)
 rw [set_none_id hn] at h2
 exact ⟨_,_,WkV.fz hd (.tuple (.cons (.ptr 0 hσ (ASt.set_same _ _ _)) (.cons (.refl _) .nil))),cs,rfl,hr,h2⟩
set_option maxHeartbeats 1000000 in
theorem trstore_ok {b0:List UInt8} (h:PoolAt base σ p m k pg) (ht:base t=some (.obj [.ptr p 0,.int .i64 root])) (hq:pg page=some b0) (hn:NodeOf base n nd) (ho:nd.ok) :
  ACalls Tryz.prog 66 [.ptr t 0,.int .i64 page,.ptr n 0] σ fun r σ'=>r = .int .i64 0/\∃ b',TPg b' nd/\PoolAt base σ' p m k (pset pg page (some b')):=by
 have hts:=h.at ht
 have hb0:=h.slen hq
 obtain ⟨rn,hn1,hn2⟩:=hn
 refine a66 (by simp) ?_
 simp (disch:=first|assumption|omega|(simp only [List.length_append,List.length_cons,List.length_nil];omega)) only [go_sem,hts]
 refine (plpin_ok h hq).mono ?_
 rintro v σ1 ⟨fa,xa,c,dirty,rfl,hxa,hck,hc,h1⟩
 have hnx:n≠xa:=fun e=>by rw [e,hxa] at hn1;cases hn1
 simp (disch:=first|assumption|omega|(simp only [List.length_append,List.length_cons,List.length_nil];omega)) only [go_sem]
 refine (pledit_ok h1 (ASt.set_same _ _ _) hb0 (.inr hq)).mono ?_
 rintro v σ2 ⟨rfl,h2⟩
 have hX:=h2.at (ASt.set_same base xa (some (.obj (bytesAV b0))))
 have hN:=h2.at ((ASt.set_ne (σ:=base) (r:=some (.obj (bytesAV b0))) hnx).trans hn1)
 simp (disch:=first|assumption|omega|(simp only [List.length_append,List.length_cons,List.length_nil];omega)) only [go_sem]
 refine (trenc_ok hX hb0 hc ⟨rn,hN,hn2⟩ hnx ho).mono ?_
 rintro v σ3 ⟨rfl,b',hb',rfl⟩
 have h3:=h2.set (x:=xa) (some (.obj (bytesAV b'))) (.inl (by rw [ASt.set_same];simp)) hck
 rw [ASt.set_set] at h3
 have hun:=plunpin_d h3 (ASt.set_same _ _ _) hb'.len (.inl rfl) hck
 rw [set_none_id hxa] at hun
 simp (disch:=first|assumption|omega|(simp only [List.length_append,List.length_cons,List.length_nil];omega)) only [go_sem]
 refine hun.mono ?_
 rintro v σ4 ⟨rfl,h4⟩
 exact retC_by (.refl _) (.refl _) ⟨rfl,b',hb',h4⟩
end
end Go.A
namespace Go.A
open Go.Proofs
/-! 129: (*tabular/tree.node).full -/
def c129_3:ACode := .seq (.ops [ oq 2 (.mv (.v (.bool false)))]) (.seq (.ops [ oq 3 (.mv (.t 0)),oq 4 (.nc (.t 3)),oq 5 (.fa 1 (.t 4)),oq 6 (.ld none (.t 5)),oq 7 (.len (.t 6)),oq 8 (.bin .gtr (.t 7) (.v (.int .i64 30))),oq 9 (.mv (.t 8)),⟨some 10,some (9,false),.q (.mv (.t 0)),[]⟩,⟨some 11,some (9,false),.q (.nc (.t 10)),[]⟩,⟨some 12,some (9,false),.q (.fa 3 (.t 11)),[]⟩,⟨some 13,some (9,false),.q (.ld none (.t 12)),[]⟩,⟨some 14,some (9,false),.q (.len (.t 13)),[]⟩,⟨some 15,some (9,false),.q (.bin .gtr (.t 14) (.v (.int .i64 40))),[]⟩,oq 16 (.pick (.t 9) (.v (.bool true)) (.t 15)),oq 2 (.mv (.t 16))]) .ret)
@[go_sem] def c129_3_wp:=wp_of c129_3.eq_1
def c129:AFn:=⟨17,[.t 2],c129_3⟩
theorem c129_ok:compF Tryz.prog Tryz.f129=some c129:=by kernel_rfl
theorem a129 {args:List AV} {σ:ASt} {R:AV->ASt->Prop} (hl:args.length<=17) (h:c129_3.wp Tryz.prog (RetQ [.t 2] R) (init args) σ):ACalls Tryz.prog 129 args σ R:=acalls_of Tryz.func129 c129_ok hl h
/-! 130: (*tabular/tree.node).split -/
end Go.A
namespace Go.A
open Go.Proofs
section
variable {base base' σ σ':ASt} {p k page fa xa c t root n:Nat} {m:PX} {pg:Pgs} {dirty:Bool} {b:List UInt8} {nd:TN} {r:Role} {ks vs ds:List Nat}
theorem trfull_leaf (hn:σ n=some r) (hr:NodeR r (.leaf ks vs)):ACalls Tryz.prog 129 [.ptr n 0] σ fun v σ'=>v = .bool (decide (30<ks.length))/\σ'=σ:=by
 obtain ⟨k1,k2,k3,rfl⟩:=hr
 have hkl:=kv_len .u64 ks
 generalize kv .u64 ks=KS at *
 refine a129 (by simp) ?_
 by_cases h:30<ks.length
 ·have h':(30:Int)<(ks.length:Int):=by omega
  rw [decide_eq_true h]
  simp (disch:=first|assumption|omega|(simp only [List.length_append,List.length_cons,List.length_nil];omega)) only [go_sem,hn,hkl,h']
  exact retC_by (.refl _) (.refl _) ⟨rfl,rfl⟩
 ·have h':¬ (30:Int)<(ks.length:Int):=by omega
  rw [decide_eq_false h]
  simp (disch:=first|assumption|omega|(simp only [List.length_append,List.length_cons,List.length_nil];omega)) only [go_sem,hn,hkl,h']
  exact retC_by (.refl _) (.refl _) ⟨rfl,rfl⟩
theorem PoolAt.lessB (h:PoolAt base σ p m k pg) {v:AV} (hv:∀ X,blkV v=some X->base X≠none/\X≠0):PoolAt (lessB base v) (lessB σ v) p m k pg:=by
 unfold Go.A.lessB
 cases hb:blkV v with
 | none=>exact h
 | some X=>exact h.set none (.inl (hv X hb).1) (hv X hb).2
theorem node_hard {x y:AV} {kx ky:IntKind} {lx ly:List Nat} (hO:Only base base' (nodeB n x y)) (new:base n=none) {r0:Role} (hn:base' n=some r0) (hx:OwnR base base' kx x lx) (hy:OwnR base base' ky y ly)
  (nx:blkV x≠some n) (ny:blkV y≠some n) (ab:∀ X,blkV x=some X->blkV y≠some X) (hcb:CkT base) (hp:PoolAt base' σ p m k pg) (r:Role):PoolAt (base.set n (some r)) ((Go.A.lessB (Go.A.lessB σ x) y).set n (some r)) p m k pg:=by
 have h1:=hp.lessB (v:=x) fun X hX=>by
  obtain ⟨q1,q2,q3⟩:=hx.in hX
  exact ⟨by rw [q3];simp,ck_ne hcb q1⟩
 have h2:=h1.lessB (v:=y) fun X hX=>by
  obtain ⟨q1,q2,q3⟩:=hy.in hX
  exact ⟨by rw [lessB_eq (fun e=>ab X e hX),q3];simp,ck_ne hcb q1⟩
 have hnn:Go.A.lessB (Go.A.lessB base' x) y n=some r0:=by rw [lessB_eq ny,lessB_eq nx,hn]
 have h3:=h2.set (x:=n) (some r) (.inl (by rw [hnn];simp)) (ck_ne hcb new)
 have e:(Go.A.lessB (Go.A.lessB base' x) y).set n (some r)=base.set n (some r):=by
  funext z
  by_cases hz:z=n
  ·rw [hz,ASt.set_same,ASt.set_same]
  rw [ASt.set_ne hz,ASt.set_ne hz]
  by_cases hzy:blkV y=some z
  ·rw [lessB_no hzy,(hy.in hzy).1]
  rw [lessB_eq hzy]
  by_cases hzx:blkV x=some z
  ·rw [lessB_no hzx,(hx.in hzx).1]
  rw [lessB_eq hzx]
  exact hO z fun hq=>hq.elim hz (fun hq=>hq.elim hzx hzy)
 rw [e] at h3
 exact h3
theorem PoolAt.drop1 (h:PoolAt (base.set n (some r)) σ p m k pg) (hn:base n=none) (hc:CkT base):PoolAt base σ p m k pg:=
 h.less (fun x q hx=>by rw [ASt.set_ne (fun e=>by rw [e,hn] at hx;cases hx)];exact hx) hc
theorem u64L_ins {l:List Nat} {i x:Nat} (h:u64L l) (hx:x<18446744073709551616):u64L (insL l i x):=fun y hy=>by
 unfold insL at hy
 rw [List.mem_append,List.mem_cons] at hy
 rcases hy with hy|rfl|hy
 ·exact h y (List.mem_of_mem_take hy)
 ·exact hx
 ·exact h y (List.mem_of_mem_drop hy)
theorem insL_len {l:List Nat} {i x:Nat} (h:i<=l.length):(insL l i x).length=l.length+1:=by
 unfold insL
 rw [List.length_append,List.length_cons,List.length_take,List.length_drop]
 omega
end
end Go.A
namespace Go.A
open Go.Proofs
/-! 64: (*tabular/tree.Tree).put -/
def c64_34:ACode := .cond (.t 43) (.seq (.ops [ oq 45 (.mv (.t 13)),oq 46 (.nc (.t 45)),oq 47 (.fa 1 (.t 46)),oq 48 (.ld none (.t 47)),oq 49 (.mv (.t 2)),oe 50 (.call 39 [(.t 48),(.t 49)]),oq 44 (.mv (.t 50)),oq 51 (.ext 0 (.t 44)),oq 52 (.ext 1 (.t 44)),oq 15 (.mv (.t 51)),oq 16 (.mv (.t 52))]) (.seq (.seq (.ops [ oq 53 (.mv (.t 16))]) (.cond (.t 53) (.seq (.ops [ oq 54 (.mv (.t 13)),oq 55 (.nc (.t 54)),oq 56 (.fa 2 (.t 55)),oq 57 (.ld none (.t 56)),oq 58 (.mv (.t 15)),oq 59 (.mv (.t 3)),oq 60 (.ia 1 (.t 57) (.t 58)),oz (.store 1 (.t 60) (.t 59))]) (.seq (.ops [ oq 61 (.mv (.t 0)),oq 62 (.mv (.t 1)),oq 63 (.mv (.t 13)),oe 64 (.call 66 [(.t 61),(.t 62),(.t 63)]),oq 10 (.mv (.v (.int .i64 0))),oq 11 (.mv (.v (.int .u64 0))),oq 12 (.mv (.t 64))]) .ret)) .skip)) (.ops [ oq 65 (.mv (.t 13)),oq 66 (.mv (.t 13)),oq 67 (.mv (.t 13)),oq 68 (.nc (.t 67)),oq 69 (.fa 1 (.t 68)),oq 70 (.ld none (.t 69)),oq 71 (.mv (.t 15)),oq 72 (.mv (.t 2)),oq 73 (.bslv 1 [(.t 72)]),oq 75 (.mv (.t 13)),oq 76 (.nc (.t 75)),oq 77 (.fa 2 (.t 76)),oq 78 (.ld none (.t 77)),oq 79 (.mv (.t 15)),oq 80 (.mv (.t 3)),oq 81 (.bslv 1 [(.t 80)]),⟨some 74,none,.e (.call 67 [(.t 70),(.t 71),(.t 73)]),[⟨none,.ld none (.t 77),78⟩]⟩,oe 82 (.call 67 [(.t 78),(.t 79),(.t 81)]),oq 83 (.nc (.t 65)),oq 84 (.fa 1 (.t 83)),oz (.store 1 (.t 84) (.t 74)),oq 85 (.nc (.t 66)),oq 86 (.fa 2 (.t 85)),oz (.store 1 (.t 86) (.t 82))]))) (.seq (.ops [ oq 87 (.mv (.t 13)),oq 88 (.mv (.t 2)),oe 89 (.call 40 [(.t 87),(.t 88)]),oq 17 (.mv (.t 89))]) (.seq (.ops [ oq 91 (.mv (.t 0)),oq 92 (.mv (.t 13)),oq 93 (.nc (.t 92)),oq 94 (.fa 3 (.t 93)),oq 95 (.ld none (.t 94)),oq 96 (.mv (.t 17)),oq 97 (.ia 1 (.t 95) (.t 96)),oq 98 (.ld none (.t 97)),oq 99 (.mv (.t 2)),oq 100 (.mv (.t 3)),oq 101 (.mv (.t 4)),oq 102 (.bin .add (.t 101) (.v (.int .i64 1))),oe 103 (.call 64 [(.t 91),(.t 98),(.t 99),(.t 100),(.t 102)]),oq 90 (.mv (.t 103)),oq 104 (.ext 0 (.t 90)),oq 105 (.ext 1 (.t 90)),oq 106 (.ext 2 (.t 90)),oq 18 (.mv (.t 104)),oq 19 (.mv (.t 105)),oq 20 (.mv (.t 106))]) (.seq (.seq (.ops [ oq 107 (.mv (.t 20)),oq 108 (.bin .neq (.t 107) (.v (.int .i64 0))),oq 109 (.mv (.t 108)),⟨some 110,some (109,false),.q (.mv (.t 18)),[]⟩,⟨some 111,some (109,false),.q (.bin .eql (.t 110) (.v (.int .i64 0))),[]⟩,oq 112 (.pick (.t 109) (.v (.bool true)) (.t 111))]) (.cond (.t 112) (.seq (.ops [ oq 113 (.mv (.t 20)),oq 10 (.mv (.v (.int .i64 0))),oq 11 (.mv (.v (.int .u64 0))),oq 12 (.mv (.t 113))]) .ret) .skip)) (.ops [ oq 114 (.mv (.t 13)),oq 115 (.mv (.t 13)),oq 116 (.mv (.t 13)),oq 117 (.nc (.t 116)),oq 118 (.fa 1 (.t 117)),oq 119 (.ld none (.t 118)),oq 120 (.mv (.t 17)),oq 121 (.mv (.t 19)),oq 122 (.bslv 1 [(.t 121)]),oq 124 (.mv (.t 13)),oq 125 (.nc (.t 124)),oq 126 (.fa 3 (.t 125)),oq 127 (.ld none (.t 126)),oq 128 (.mv (.t 17)),oq 129 (.bin .add (.t 128) (.v (.int .i64 1))),oq 130 (.mv (.t 18)),oq 131 (.bslv 1 [(.t 130)]),⟨some 123,none,.e (.call 67 [(.t 119),(.t 120),(.t 122)]),[⟨none,.ld none (.t 126),127⟩]⟩,oe 132 (.call 128 [(.t 127),(.t 129),(.t 131)]),oq 133 (.nc (.t 114)),oq 134 (.fa 1 (.t 133)),oz (.store 1 (.t 134) (.t 123)),oq 135 (.nc (.t 115)),oq 136 (.fa 3 (.t 135)),oz (.store 1 (.t 136) (.t 132))]))))
def c64_60:ACode := .seq (.ops [ oq 10 (.mv (.v (.int .i64 0))),oq 11 (.mv (.v (.int .u64 0))),oq 12 (.mv (.v (.int .i64 0)))]) (.seq (.ops [ oq 26 (.mv (.t 0)),oq 27 (.mv (.t 1)),oe 28 (.call 38 [(.t 26),(.t 27)]),oq 25 (.mv (.t 28)),oq 29 (.ext 0 (.t 25)),oq 30 (.ext 1 (.t 25)),oq 13 (.mv (.t 29)),oq 14 (.mv (.t 30))]) (.seq (.seq (.ops [ oq 31 (.mv (.t 14)),oq 32 (.bin .eql (.t 31) (.v (.int .i64 0))),oq 33 (.mv (.t 32)),⟨some 34,some (33,true),.q (.mv (.t 4)),[]⟩,⟨some 35,some (33,true),.q (.bin .gtr (.t 34) (.v (.int .i64 20))),[]⟩,oq 36 (.pick (.t 33) (.t 35) (.v (.bool false)))]) (.cond (.t 36) (.ops [ oq 14 (.mv (.v (.int .i64 3)))]) .skip)) (.seq (.seq (.ops [ oq 37 (.mv (.t 14)),oq 38 (.bin .neq (.t 37) (.v (.int .i64 0)))]) (.cond (.t 38) (.seq (.ops [ oq 39 (.mv (.t 14)),oq 10 (.mv (.v (.int .i64 0))),oq 11 (.mv (.v (.int .u64 0))),oq 12 (.mv (.t 39))]) .ret) .skip)) (.seq (.seq (.ops [ oq 40 (.mv (.t 13)),oq 41 (.nc (.t 40)),oq 42 (.fa 0 (.t 41)),oq 43 (.ld none (.t 42))]) c64_34) (.seq (.seq (.ops [ oq 137 (.mv (.t 13)),oe 138 (.call 129 [(.t 137)]),oq 139 (.un .not (.t 138))]) (.cond (.t 139) (.seq (.ops [ oq 140 (.mv (.t 0)),oq 141 (.mv (.t 1)),oq 142 (.mv (.t 13)),oe 143 (.call 66 [(.t 140),(.t 141),(.t 142)]),oq 10 (.mv (.v (.int .i64 0))),oq 11 (.mv (.v (.int .u64 0))),oq 12 (.mv (.t 143))]) .ret) .skip)) (.seq (.ops [ oq 145 (.mv (.t 13)),oe 146 (.call 130 [(.t 145)]),oq 144 (.mv (.t 146)),oq 147 (.ext 0 (.t 144)),oq 148 (.ext 1 (.t 144)),oq 21 (.mv (.t 147)),oq 22 (.mv (.t 148))]) (.seq (.seq (.ops [ oq 149 (.mv (.t 0)),oq 150 (.mv (.t 1)),oq 151 (.mv (.t 13)),oe 152 (.call 66 [(.t 149),(.t 150),(.t 151)]),oq 23 (.mv (.t 152))]) (.seq (.ops [ oq 153 (.mv (.t 23)),oq 154 (.bin .neq (.t 153) (.v (.int .i64 0)))]) (.cond (.t 154) (.seq (.ops [ oq 155 (.mv (.t 23)),oq 10 (.mv (.v (.int .i64 0))),oq 11 (.mv (.v (.int .u64 0))),oq 12 (.mv (.t 155))]) .ret) .skip))) (.seq (.ops [ oq 157 (.mv (.t 0)),oq 158 (.mv (.t 21)),oe 159 (.call 65 [(.t 157),(.t 158)]),oq 156 (.mv (.t 159)),oq 160 (.ext 0 (.t 156)),oq 161 (.ext 1 (.t 156)),oq 24 (.mv (.t 160)),oq 14 (.mv (.t 161))]) (.seq (.ops [ oq 162 (.mv (.t 24)),oq 163 (.mv (.t 22)),oq 164 (.mv (.t 14)),oq 10 (.mv (.t 162)),oq 11 (.mv (.t 163)),oq 12 (.mv (.t 164))]) .ret)))))))))
@[go_sem] def c64_34_wp:=wp_of c64_34.eq_1
@[go_sem] def c64_60_wp:=wp_of c64_60.eq_1
def c64:AFn:=⟨165,[.t 10,.t 11,.t 12],c64_60⟩
theorem c64_ok:compF Tryz.prog Tryz.f64=some c64:=by kernel_rfl
theorem a64 {args:List AV} {σ:ASt} {R:AV->ASt->Prop} (hl:args.length<=165) (h:c64_60.wp Tryz.prog (RetQ [.t 10,.t 11,.t 12] R) (init args) σ):ACalls Tryz.prog 64 args σ R:=acalls_of Tryz.func64 c64_ok hl h
end Go.A
namespace Go.A
open Go.Proofs
section
variable {base base' σ σ':ASt} {p k page fa xa c t root n:Nat} {m:PX} {pg:Pgs} {dirty:Bool} {b:List UInt8} {nd:TN} {r:Role} {ks vs ds:List Nat}
set_option maxHeartbeats 1000000 in
theorem trput_ins (h:PoolAt base σ p m k pg) (ht:base t=some (.obj [.ptr p 0,.int .i64 root])) (hq:pg page=some b) (hl:TLeaf b ks vs) (hs:ks.Pairwise (· < ·)) {key v deep:Nat} (hk:key<18446744073709551616) (hv:v<18446744073709551616) (hd:deep<=20)
  (hf:ks[lowI ks key]? ≠ some key) (h29:ks.length<30) :
  ACalls Tryz.prog 64 [.ptr t 0,.int .i64 page,.int .u64 key,.int .u64 v,.int .i64 deep] σ fun r σ'=>r = .tuple [.int .i64 0,.int .u64 0,.int .i64 0]/\∃ b',TLeaf b' (insL ks (lowI ks key) key) (insL vs (lowI ks key) v)/\PoolAt base σ' p m k (pset pg page (some b')):=by
 have hd':¬ (20:Int)<(deep:Int):=by omega
 have hts:=h.at ht
 have hle:=lowI_le ks key
 have hn0:=hl.n
 have hmost:=hl.most
 refine a64 (by simp) ?_
 simp (disch:=first|assumption|omega|(simp only [List.length_append,List.length_cons,List.length_nil];omega)) only [go_sem,hts]
 refine (trload_leafM h ht hq hl).mono ?_
 rintro w σ1 ⟨n,x,y,base1,rfl,hm,hO,hp⟩
 have hn:=hp.at hm.hn
 have own:∀ {k:IntKind} {v:AV} {l:List Nat},OwnR base base1 k v l->OwnR base σ1 k v l:=fun {k v l} ho=>ho.mono fun X r hX hr=>hp.at hr
 have hbin:=(own hm.ha).bin64 (t:=key) (by omega) hs
 rw [decide_eq_false hf] at hbin
 simp (disch:=first|assumption|omega|(simp only [List.length_append,List.length_cons,List.length_nil];omega)) only [go_sem,hn,hd']
 refine hbin.mono ?_
 rintro w σ2 ⟨rfl,rfl⟩
 generalize lowI ks key=i at *
 have hi1:=(own hm.ha).ins64 (i:=i) (x:=key) hle (by omega)
 have hb2:OwnR base (lessB σ2 x) .u64 y vs:=(own hm.hb).mono fun X r hX hr=>by rw [lessB_eq (fun e=>hm.ab X e hX)];exact hr
 have hi2:=hb2.ins64 (i:=i) (x:=v) (by omega) (by omega)
 have hlen:(insL ks i key).length=ks.length+1:=insL_len hle
 have hlen2:(insL vs i v).length=ks.length+1:=by rw [insL_len (by omega),hn0]
 have hku:u64L (insL ks i key):=u64L_ins hl.ku hk
 have hvu:u64L (insL vs i v):=u64L_ins hl.vu hv
 have hxn:=node_hard hO hm.new hm.hn hm.ha hm.hb hm.na hm.nb hm.ab h.ck hp (.obj [.bool true,.sl .shr (kv .u64 (insL ks i key)),.sl .shr (kv .u64 (insL vs i v)),.sl .full []])
 have hr:NodeR (.obj [.bool true,.sl .shr (kv .u64 (insL ks i key)),.sl .shr (kv .u64 (insL vs i v)),.sl .full []]) (.leaf (insL ks i key) (insL vs i v)):=⟨_,_,_,rfl⟩
 generalize insL ks i key=ks' at *
 generalize insL vs i v=vs' at *
 have hcx:=hm.ha.cell
 have hcy:=hm.hb.cell
 simp (disch:=first|assumption|omega|(simp only [List.length_append,List.length_cons,List.length_nil];omega)) only [go_sem,hn]
 refine hi1.mono ?_
 rintro w σ3 ⟨rfl,rfl⟩
 have hn3:lessB σ2 x n=some (.obj [.bool true,x,y,.sl .full []]):=(lessB_eq hm.na).trans hn
 simp (disch:=first|assumption|omega|(simp only [List.length_append,List.length_cons,List.length_nil];omega)) only [go_sem,hn3]
 refine hi2.mono ?_
 rintro w σ4 ⟨rfl,rfl⟩
 have hn4:lessB (lessB σ2 x) y n=some (.obj [.bool true,x,y,.sl .full []]):=(lessB_eq hm.nb).trans hn3
 simp (disch:=first|assumption|omega|(simp only [List.length_append,List.length_cons,List.length_nil];omega)) only [go_sem,hn4,hcx,hcy]
 have hset:((lessB (lessB σ2 x) y).set n (some (.obj [.bool true,.sl .shr (kv .u64 ks'),.sl .shr (kv .u64 vs'),.sl .full []]))) n=some (.obj [.bool true,.sl .shr (kv .u64 ks'),.sl .shr (kv .u64 vs'),.sl .full []]):=ASt.set_same _ _ _
 generalize (lessB (lessB σ2 x) y).set n (some (.obj [.bool true,.sl .shr (kv .u64 ks'),.sl .shr (kv .u64 vs'),.sl .full []]))=σ5 at *
 have htn:t≠n:=fun e=>by rw [e,hm.new] at ht;cases ht
 have ht5:=(ASt.set_ne (σ:=base) (r:=some (.obj [.bool true,.sl .shr (kv .u64 ks'),.sl .shr (kv .u64 vs'),.sl .full []])) htn).trans ht
 refine (trfull_leaf hset hr).mono ?_
 rintro w σ6 ⟨rfl,rfl⟩
 rw [decide_eq_false (by omega)]
 simp (disch:=first|assumption|omega|(simp only [List.length_append,List.length_cons,List.length_nil];omega)) only [go_sem]
 refine (trstore_ok (nd := .leaf ks' vs') hxn ht5 hq ⟨_,ASt.set_same _ _ _,hr⟩ ⟨by omega,by omega,hku,hvu⟩).mono ?_
 rintro w σ7 ⟨rfl,b',hb',h7⟩
 simp (disch:=first|assumption|omega|(simp only [List.length_append,List.length_cons,List.length_nil];omega)) only [go_sem]
 exact retC_by (.refl _) (.refl _) ⟨rfl,b',hb',h7.drop1 hm.new h.ck⟩
end
end Go.A
namespace Go.A
open Go.Proofs
/-! 12: (*tabular/tree.Tree).Get -/
def c12_32:ACode := .seq (.ops [ oq 17 (.bin .lss (.t 16) (.v (.int .i64 20)))]) (.seq (.cond (.t 17) .skip (.exit 0)) (.seq (.block 1 (.seq (.ops [ oq 19 (.mv (.t 0)),oq 20 (.mv (.t 7)),oe 21 (.call 38 [(.t 19),(.t 20)]),oq 18 (.mv (.t 21)),oq 22 (.ext 0 (.t 18)),oq 23 (.ext 1 (.t 18)),oq 8 (.mv (.t 22)),oq 9 (.mv (.t 23))]) (.seq (.seq (.ops [ oq 24 (.mv (.t 9)),oq 25 (.bin .neq (.t 24) (.v (.int .i64 0)))]) (.cond (.t 25) (.seq (.ops [ oq 26 (.mv (.t 9)),oq 4 (.mv (.v (.int .u64 0))),oq 5 (.mv (.v (.bool false))),oq 6 (.mv (.t 26))]) .ret) .skip)) (.seq (.seq (.ops [ oq 27 (.mv (.t 8)),oq 28 (.nc (.t 27)),oq 29 (.fa 0 (.t 28)),oq 30 (.ld none (.t 29))]) (.cond (.t 30) (.seq (.seq (.ops [ oq 32 (.mv (.t 8)),oq 33 (.nc (.t 32)),oq 34 (.fa 1 (.t 33)),oq 35 (.ld none (.t 34)),oq 36 (.mv (.t 1)),oe 37 (.call 39 [(.t 35),(.t 36)]),oq 31 (.mv (.t 37)),oq 38 (.ext 0 (.t 31)),oq 39 (.ext 1 (.t 31)),oq 10 (.mv (.t 38)),oq 11 (.mv (.t 39))]) (.seq (.ops [ oq 40 (.mv (.t 11))]) (.cond (.t 40) (.seq (.ops [ oq 41 (.mv (.t 8)),oq 42 (.nc (.t 41)),oq 43 (.fa 2 (.t 42)),oq 44 (.ld none (.t 43)),oq 45 (.mv (.t 10)),oq 46 (.ia 1 (.t 44) (.t 45)),oq 47 (.ld none (.t 46)),oq 4 (.mv (.t 47)),oq 5 (.mv (.v (.bool true))),oq 6 (.mv (.v (.int .i64 0)))]) .ret) .skip))) (.seq (.ops [ oq 4 (.mv (.v (.int .u64 0))),oq 5 (.mv (.v (.bool false))),oq 6 (.mv (.v (.int .i64 0)))]) .ret)) .skip)) (.ops [ oq 48 (.mv (.t 8)),oq 49 (.nc (.t 48)),oq 50 (.fa 3 (.t 49)),oq 51 (.ld none (.t 50)),oq 52 (.mv (.t 8)),oq 53 (.mv (.t 1)),⟨some 54,none,.e (.call 40 [(.t 52),(.t 53)]),[⟨none,.ld none (.t 50),51⟩]⟩,oq 55 (.ia 1 (.t 51) (.t 54)),oq 56 (.ld none (.t 55)),oq 7 (.mv (.t 56))]))))) (.ops [ oq 57 (.bin .add (.t 16) (.v (.int .i64 1))),oq 16 (.mv (.t 57))])))
def c12_40:ACode := .seq (.ops [ oq 4 (.mv (.v (.int .u64 0))),oq 5 (.mv (.v (.bool false))),oq 6 (.mv (.v (.int .i64 0)))]) (.seq (.ops [ oq 12 (.mv (.t 0)),oq 13 (.nc (.t 12)),oq 14 (.fa 1 (.t 13)),oq 15 (.ld none (.t 14)),oq 7 (.mv (.t 15))]) (.seq (.seq (.ops [ oq 16 (.mv (.v (.int .i64 0)))]) (.block 0 (.loop c12_32))) (.seq (.ops [ oq 4 (.mv (.v (.int .u64 0))),oq 5 (.mv (.v (.bool false))),oq 6 (.mv (.v (.int .i64 3)))]) .ret)))
@[go_sem] def c12_32_wp:=wp_of c12_32.eq_1
@[go_sem] def c12_40_wp:=wp_of c12_40.eq_1
def c12:AFn:=⟨58,[.t 4,.t 5,.t 6],c12_40⟩
theorem c12_ok:compF Tryz.prog Tryz.f12=some c12:=by kernel_rfl
theorem a12 {args:List AV} {σ:ASt} {R:AV->ASt->Prop} (hl:args.length<=58) (h:c12_40.wp Tryz.prog (RetQ [.t 4,.t 5,.t 6] R) (init args) σ):ACalls Tryz.prog 12 args σ R:=acalls_of Tryz.func12 c12_ok hl h
/-! 40: (*tabular/tree.node).kid -/
def c40_10:ACode := .seq (.ops [ oq 4 (.mv (.v (.int .i64 0)))]) (.seq (.ops [ oq 8 (.mv (.t 0)),oq 9 (.nc (.t 8)),oq 10 (.fa 1 (.t 9)),oq 11 (.ld none (.t 10)),oq 12 (.mv (.t 1)),oe 13 (.call 39 [(.t 11),(.t 12)]),oq 7 (.mv (.t 13)),oq 14 (.ext 0 (.t 7)),oq 15 (.ext 1 (.t 7)),oq 5 (.mv (.t 14)),oq 6 (.mv (.t 15))]) (.seq (.seq (.ops [ oq 16 (.mv (.t 6))]) (.cond (.t 16) (.ops [ oq 17 (.mv (.t 5)),oq 18 (.bin .add (.t 17) (.v (.int .i64 1))),oq 5 (.mv (.t 18))]) .skip)) (.seq (.ops [ oq 19 (.mv (.t 5)),oq 4 (.mv (.t 19))]) .ret)))
@[go_sem] def c40_10_wp:=wp_of c40_10.eq_1
def c40:AFn:=⟨20,[.t 4],c40_10⟩
theorem c40_ok:compF Tryz.prog Tryz.f40=some c40:=by kernel_rfl
theorem a40 {args:List AV} {σ:ASt} {R:AV->ASt->Prop} (hl:args.length<=20) (h:c40_10.wp Tryz.prog (RetQ [.t 4] R) (init args) σ):ACalls Tryz.prog 40 args σ R:=acalls_of Tryz.func40 c40_ok hl h
end Go.A
namespace Go.A
open Go.Proofs
def kidI (ks:List Nat) (k:Nat):Nat:=if ks[lowI ks k]? = some k then lowI ks k+1 else lowI ks k
theorem kidI_le (ks:List Nat) (k:Nat):kidI ks k<=ks.length:=by
 unfold kidI
 have:=lowI_le ks k
 split
 ·rename_i h
  have:=(List.getElem?_eq_some_iff.1 h).1
  omega
 ·exact this
section
variable {base base' σ σ':ASt} {p k page fa xa c t root n:Nat} {m:PX} {pg:Pgs} {dirty:Bool} {b:List UInt8} {nd:TN} {r:Role} {ks vs ds:List Nat}
theorem trkid_i {k1:SK} {a0 a2 a3:AV} {key:Nat} (h0:a0.cells = [a0]) (hl:ks.length<=1000) (hs:ks.Pairwise (· < ·)) :
  Pure Tryz.prog 40 [.imm [a0,.sl k1 (kv .u64 ks),a2,a3],.int .u64 key] (.int .i64 (kidI ks key)):=by
 intro σ
 have hle:=lowI_le ks key
 have hbin:=xBin64_ok (t:=key) k1 (by omega) hs
 unfold kidI
 by_cases hf:ks[lowI ks key]? = some key
 ·rw [decide_eq_true hf] at hbin
  rw [if_pos hf]
  generalize lowI ks key=i at *
  refine a40 (by simp) ?_
  simp (disch:=first|assumption|omega|(simp only [List.length_append,List.length_cons,List.length_nil];omega)) only [go_sem,h0]
  refine hbin.use ?_
  simp (disch:=first|assumption|omega|(simp only [List.length_append,List.length_cons,List.length_nil];omega)) only [go_sem]
  exact retC_by (.refl _) (.refl _) ⟨rfl,rfl⟩
 ·rw [decide_eq_false hf] at hbin
  rw [if_neg hf]
  generalize lowI ks key=i at *
  refine a40 (by simp) ?_
  simp (disch:=first|assumption|omega|(simp only [List.length_append,List.length_cons,List.length_nil];omega)) only [go_sem,h0]
  refine hbin.use ?_
  simp (disch:=first|assumption|omega|(simp only [List.length_append,List.length_cons,List.length_nil];omega)) only [go_sem]
  exact retC_by (.refl _) (.refl _) ⟨rfl,rfl⟩
set_option maxHeartbeats 1000000 in
theorem trget_ok (h:PoolAt base σ p m k pg) (ht:base t=some (.obj [.ptr p 0,.int .i64 root])) {key D:Nat} (hD:D<=10) {P:Nat->Nat} (hP:P 0=root)
  (hin:∀ i,i<D->∃ b ks ds,pg (P i)=some b/\TInner b ks ds/\ks.Pairwise (· < ·)/\ds[kidI ks key]? = some (P (i+1))) (hq:pg (P D)=some b) (hl:TLeaf b ks vs) (hs:ks.Pairwise (· < ·)) {v:Nat} {fd:Bool}
  (hv:fd=true/\ks[lowI ks key]? = some key/\vs[lowI ks key]? = some v\/fd=false/\ks[lowI ks key]? ≠ some key/\v=0) :
  ACalls Tryz.prog 12 [.ptr t 0,.int .u64 key] σ fun r σ'=>r = .tuple [.int .u64 v,.bool fd,.int .i64 0]/\PoolAt base σ' p m k pg:=by
 have hts:=h.at ht
 refine a12 (by simp) ?_
 simp (disch:=first|assumption|omega|(simp only [List.length_append,List.length_cons,List.length_nil];omega)) only [go_sem,hts]
 obtain ⟨J,hJ⟩:∃ J:Nat->AFr->ASt->Prop,J=fun i a1 s2=>i<=D/\(a1 0 = .ptr t 0/\a1 1 = .int .u64 key/\a1 7 = .int .i64 (P i)/\a1 16 = .int .i64 i)/\PoolAt base s2 p m k pg:=⟨_,rfl⟩
 refine wp_loop_on J (fun i=>D+1-i) 0 ?_ ?_
 ·rw [hJ]
  refine ⟨Nat.zero_le _,?_,h⟩
  rw [hP]
  simp (disch:=first|assumption|omega|(simp only [List.length_append,List.length_cons,List.length_nil];omega)) only [go_sem]
 intro i a1 s2 hj
 rw [hJ] at hj
 obtain ⟨hi,hf,hp⟩:=hj
 have hlt:(i:Int)<20:=by omega
 by_cases hiD:i<D
 ·obtain ⟨b',ks',ds',hq',hl',hs',hd'⟩:=hin i hiD
  simp (disch:=first|assumption|omega|(simp only [List.length_append,List.length_cons,List.length_nil];omega)) only [go_sem,hf,hlt]
  refine (trload_i (nd := .inner ks' ds') hp ht hq' hl').mono ?_
  rintro w s3 ⟨cs,rfl,⟨k1,k2,k3,hcs⟩,hp3⟩
  injection hcs with hcs
  subst hcs
  have hk:=trkid_i (k1:=k1) (ks:=ks') (a0 := .bool false) (a2 := .sl k2 []) (a3 := .sl k3 (kv .i64 ds')) (key:=key) rfl (by have:=hl'.n;have:=hl'.most;omega) hs'
  have hg:=kv_get (k := .i64) hd'
  have hdl:=kv_len .i64 ds'
  have hkl:=kidI_le ks' key
  have hkn:=hl'.n
  generalize kidI ks' key=j at *
  have hjl:(j:Int)<(ds'.length:Int):=by omega
  generalize kv .i64 ds'=DS at *
  simp (disch:=first|assumption|omega|(simp only [List.length_append,List.length_cons,List.length_nil];omega)) only [go_sem,hf]
  refine hk.use ?_
  simp (disch:=first|assumption|omega|(simp only [List.length_append,List.length_cons,List.length_nil];omega)) only [go_sem,hf,hg,hdl,hjl,Int.toNat_natCast]
  rw [hJ]
  refine ⟨i+1,by omega,by omega,?_,hp3⟩
  simp (disch:=first|assumption|omega|(simp only [List.length_append,List.length_cons,List.length_nil];omega)) only [go_sem,hf]
 ·obtain rfl:i=D:=by omega
  simp (disch:=first|assumption|omega|(simp only [List.length_append,List.length_cons,List.length_nil];omega)) only [go_sem,hf,hlt]
  refine (trload_i (nd := .leaf ks vs) hp ht hq hl).mono ?_
  rintro w s3 ⟨cs,rfl,⟨k1,k2,k3,hcs⟩,hp3⟩
  injection hcs with hcs
  subst hcs
  have hbin:=xBin64_ok (t:=key) k1 (by have:=hl.most;omega) hs
  have hkn:=hl.n
  rcases hv with ⟨rfl,hv1,hv2⟩|⟨rfl,hv1,rfl⟩
  ·rw [decide_eq_true hv1] at hbin
   have hg:=kv_get (k := .u64) hv2
   have hjl:=(List.getElem?_eq_some_iff.1 hv2).1
   have hvl:=kv_len .u64 vs
   generalize lowI ks key=j at *
   have hjl:(j:Int)<(vs.length:Int):=by omega
   generalize kv .u64 vs=VS at *
   simp (disch:=first|assumption|omega|(simp only [List.length_append,List.length_cons,List.length_nil];omega)) only [go_sem,hf]
   refine hbin.use ?_
   simp (disch:=first|assumption|omega|(simp only [List.length_append,List.length_cons,List.length_nil];omega)) only [go_sem,hf,hg,hvl,hjl,Int.toNat_natCast]
   exact retC_by (.refl _) (.refl _) ⟨rfl,hp3⟩
  ·rw [decide_eq_false hv1] at hbin
   simp (disch:=first|assumption|omega|(simp only [List.length_append,List.length_cons,List.length_nil];omega)) only [go_sem,hf]
   refine hbin.use ?_
   simp (disch:=first|assumption|omega|(simp only [List.length_append,List.length_cons,List.length_nil];omega)) only [go_sem,hf]
   exact retC_by (.refl _) (.refl _) ⟨rfl,hp3⟩
end
end Go.A
namespace Go.A
open Go.Proofs
/-! 19: (*tabular/tree.Tree).Put -/
def c19_27:ACode := .seq (.ops [ oq 6 (.mv (.v (.int .i64 0)))]) (.seq (.ops [ oq 13 (.mv (.t 0)),oq 14 (.mv (.t 0)),oq 15 (.nc (.t 14)),oq 16 (.fa 1 (.t 15)),oq 17 (.ld none (.t 16)),oq 18 (.mv (.t 1)),oq 19 (.mv (.t 2)),oe 20 (.call 64 [(.t 13),(.t 17),(.t 18),(.t 19),(.v (.int .i64 0))]),oq 12 (.mv (.t 20)),oq 21 (.ext 0 (.t 12)),oq 22 (.ext 1 (.t 12)),oq 23 (.ext 2 (.t 12)),oq 7 (.mv (.t 21)),oq 8 (.mv (.t 22)),oq 9 (.mv (.t 23))]) (.seq (.seq (.ops [ oq 24 (.mv (.t 9)),oq 25 (.bin .neq (.t 24) (.v (.int .i64 0))),oq 26 (.mv (.t 25)),⟨some 27,some (26,false),.q (.mv (.t 7)),[]⟩,⟨some 28,some (26,false),.q (.bin .eql (.t 27) (.v (.int .i64 0))),[]⟩,oq 29 (.pick (.t 26) (.v (.bool true)) (.t 28))]) (.cond (.t 29) (.seq (.ops [ oq 30 (.mv (.t 9)),oq 6 (.mv (.t 30))]) .ret) .skip)) (.seq (.ops [ oq 32 (.mv (.t 0)),oq 33 (.mv (.t 0)),oq 34 (.nc (.t 33)),oq 35 (.fa 1 (.t 34)),oq 36 (.ld none (.t 35)),oe 37 (.call 38 [(.t 32),(.t 36)]),oq 31 (.mv (.t 37)),oq 38 (.ext 0 (.t 31)),oq 39 (.ext 1 (.t 31)),oq 10 (.mv (.t 38)),oq 9 (.mv (.t 39))]) (.seq (.seq (.ops [ oq 40 (.mv (.t 9)),oq 41 (.bin .neq (.t 40) (.v (.int .i64 0)))]) (.cond (.t 41) (.seq (.ops [ oq 42 (.mv (.t 9)),oq 6 (.mv (.t 42))]) .ret) .skip)) (.seq (.ops [ oq 44 (.mv (.t 0)),oq 45 (.mv (.t 10)),oe 46 (.call 65 [(.t 44),(.t 45)]),oq 43 (.mv (.t 46)),oq 47 (.ext 0 (.t 43)),oq 48 (.ext 1 (.t 43)),oq 11 (.mv (.t 47)),oq 9 (.mv (.t 48))]) (.seq (.seq (.ops [ oq 49 (.mv (.t 9)),oq 50 (.bin .neq (.t 49) (.v (.int .i64 0)))]) (.cond (.t 50) (.seq (.ops [ oq 51 (.mv (.t 9)),oq 6 (.mv (.t 51))]) .ret) .skip)) (.seq (.ops [ oq 52 (.mv (.t 0)),oq 53 (.mv (.t 0)),oq 54 (.nc (.t 53)),oq 55 (.fa 1 (.t 54)),oq 56 (.ld none (.t 55)),oq 57 (.mv (.t 8)),oq 58 (.bslv 1 [(.t 57)]),oq 59 (.mv (.t 11)),oq 60 (.mv (.t 7)),oq 61 (.bsl 1 [(.t 59),(.t 60)]),oq 62 (.build [(.bool false),(.sl .full []),(.sl .full []),(.sl .full [])] [(1,1,(.t 58)),(3,1,(.t 61))]),oe 63 (.box (.t 62)),oe 64 (.call 66 [(.t 52),(.t 56),(.t 63)]),oq 6 (.mv (.t 64))]) .ret)))))))
@[go_sem] def c19_27_wp:=wp_of c19_27.eq_1
def c19:AFn:=⟨65,[.t 6],c19_27⟩
theorem c19_ok:compF Tryz.prog Tryz.f19=some c19:=by kernel_rfl
theorem a19 {args:List AV} {σ:ASt} {R:AV->ASt->Prop} (hl:args.length<=65) (h:c19_27.wp Tryz.prog (RetQ [.t 6] R) (init args) σ):ACalls Tryz.prog 19 args σ R:=acalls_of Tryz.func19 c19_ok hl h
end Go.A
namespace Go.A
open Go.Proofs
section
variable {base base' σ σ':ASt} {p k page fa xa c t root n:Nat} {m:PX} {pg:Pgs} {dirty:Bool} {b:List UInt8} {nd:TN} {r:Role} {ks vs ds:List Nat}
set_option maxHeartbeats 1000000 in
theorem trPut_stay (h:PoolAt base σ p m k pg) (ht:base t=some (.obj [.ptr p 0,.int .i64 root])) {key v:Nat} {Q:Nat->Pgs->Prop}
  (call:ACalls Tryz.prog 64 [.ptr t 0,.int .i64 root,.int .u64 key,.int .u64 v,.int .i64 0] σ fun r σ2=>r = .tuple [.int .i64 0,.int .u64 0,.int .i64 0]/\∃ k' pg',Q k' pg'/\PoolAt base σ2 p m k' pg') :
  ACalls Tryz.prog 19 [.ptr t 0,.int .u64 key,.int .u64 v] σ fun r σ2=>r = .int .i64 0/\∃ k' pg',Q k' pg'/\PoolAt base σ2 p m k' pg':=by
 have hts:=h.at ht
 refine a19 (by simp) ?_
 simp (disch:=first|assumption|omega|(simp only [List.length_append,List.length_cons,List.length_nil];omega)) only [go_sem,hts]
 refine call.mono ?_
 rintro w σ1 ⟨rfl,k',pg',hQ,h1⟩
 simp (disch:=first|assumption|omega|(simp only [List.length_append,List.length_cons,List.length_nil];omega)) only [go_sem]
 exact retC_by (.refl _) (.refl _) ⟨rfl,k',pg',hQ,h1⟩
end
end Go.A
namespace Go.A
open Go.Proofs
/-! 150: tabular/tree.even -/
end Go.A
namespace Go.A
open Go.Proofs
/-! 52: (*tabular/tree.Tree).drop -/
def c52_52:ACode := .seq (.seq (.ops [ oq 34 (.mv (.t 11)),oq 35 (.nc (.t 34)),oq 36 (.fa 0 (.t 35)),oq 37 (.ld none (.t 36))]) (.cond (.t 37) (.seq (.ops [ oq 39 (.mv (.t 11)),oq 40 (.nc (.t 39)),oq 41 (.fa 1 (.t 40)),oq 42 (.ld none (.t 41)),oq 43 (.mv (.t 2)),oe 44 (.call 39 [(.t 42),(.t 43)]),oq 38 (.mv (.t 44)),oq 45 (.ext 0 (.t 38)),oq 46 (.ext 1 (.t 38)),oq 13 (.mv (.t 45)),oq 14 (.mv (.t 46))]) (.seq (.seq (.ops [ oq 47 (.mv (.t 14)),oq 48 (.un .not (.t 47))]) (.cond (.t 48) (.seq (.ops [ oq 8 (.mv (.v (.bool false))),oq 9 (.mv (.v (.bool false))),oq 10 (.mv (.v (.int .i64 0)))]) .ret) .skip)) (.seq (.ops [ oq 49 (.mv (.t 11)),oq 50 (.mv (.t 11)),oq 51 (.mv (.t 11)),oq 52 (.nc (.t 51)),oq 53 (.fa 1 (.t 52)),oq 54 (.ld none (.t 53)),oq 55 (.mv (.t 13)),oq 56 (.mv (.t 13)),oq 57 (.bin .add (.t 56) (.v (.int .i64 1))),oq 59 (.mv (.t 11)),oq 60 (.nc (.t 59)),oq 61 (.fa 2 (.t 60)),oq 62 (.ld none (.t 61)),oq 63 (.mv (.t 13)),oq 64 (.mv (.t 13)),oq 65 (.bin .add (.t 64) (.v (.int .i64 1))),⟨some 58,none,.e (.call 57 [(.t 54),(.t 55),(.t 57)]),[⟨none,.ld none (.t 61),62⟩]⟩,oe 66 (.call 57 [(.t 62),(.t 63),(.t 65)]),oq 67 (.nc (.t 49)),oq 68 (.fa 1 (.t 67)),oz (.store 1 (.t 68) (.t 58)),oq 69 (.nc (.t 50)),oq 70 (.fa 2 (.t 69)),oz (.store 1 (.t 70) (.t 66))]) (.seq (.ops [ oq 71 (.mv (.t 11)),oe 72 (.call 112 [(.t 71)]),oq 73 (.mv (.t 0)),oq 74 (.mv (.t 1)),oq 75 (.mv (.t 11)),oe 76 (.call 66 [(.t 73),(.t 74),(.t 75)]),oq 8 (.mv (.v (.bool true))),oq 9 (.mv (.t 72)),oq 10 (.mv (.t 76))]) .ret)))) .skip)) (.seq (.ops [ oq 77 (.mv (.t 11)),oq 78 (.mv (.t 2)),oe 79 (.call 40 [(.t 77),(.t 78)]),oq 15 (.mv (.t 79))]) (.seq (.ops [ oq 81 (.mv (.t 0)),oq 82 (.mv (.t 11)),oq 83 (.nc (.t 82)),oq 84 (.fa 3 (.t 83)),oq 85 (.ld none (.t 84)),oq 86 (.mv (.t 15)),oq 87 (.ia 1 (.t 85) (.t 86)),oq 88 (.ld none (.t 87)),oq 89 (.mv (.t 2)),oq 90 (.mv (.t 3)),oq 91 (.bin .add (.t 90) (.v (.int .i64 1))),oe 92 (.call 52 [(.t 81),(.t 88),(.t 89),(.t 91)]),oq 80 (.mv (.t 92)),oq 93 (.ext 0 (.t 80)),oq 94 (.ext 1 (.t 80)),oq 95 (.ext 2 (.t 80)),oq 16 (.mv (.t 93)),oq 17 (.mv (.t 94)),oq 12 (.mv (.t 95))]) (.seq (.seq (.ops [ oq 96 (.mv (.t 12)),oq 97 (.bin .neq (.t 96) (.v (.int .i64 0))),oq 98 (.mv (.t 97)),⟨some 99,some (98,false),.q (.mv (.t 17)),[]⟩,⟨some 100,some (98,false),.q (.un .not (.t 99)),[]⟩,oq 101 (.pick (.t 98) (.v (.bool true)) (.t 100))]) (.cond (.t 101) (.seq (.ops [ oq 102 (.mv (.t 16)),oq 103 (.mv (.t 12)),oq 8 (.mv (.t 102)),oq 9 (.mv (.v (.bool false))),oq 10 (.mv (.t 103))]) .ret) .skip)) (.seq (.seq (.ops [ oq 104 (.mv (.t 0)),oq 105 (.mv (.t 11)),oq 106 (.mv (.t 15)),oe 107 (.call 113 [(.t 104),(.t 105),(.t 106)]),oq 18 (.mv (.t 107))]) (.seq (.ops [ oq 108 (.mv (.t 18)),oq 109 (.bin .neq (.t 108) (.v (.int .i64 0)))]) (.cond (.t 109) (.seq (.ops [ oq 110 (.mv (.t 18)),oq 8 (.mv (.v (.bool false))),oq 9 (.mv (.v (.bool false))),oq 10 (.mv (.t 110))]) .ret) .skip))) (.seq (.seq (.ops [ oq 111 (.mv (.t 11)),oq 112 (.nc (.t 111)),oq 113 (.fa 3 (.t 112)),oq 114 (.ld none (.t 113)),oq 115 (.len (.t 114)),oq 116 (.bin .eql (.t 115) (.v (.int .i64 1)))]) (.cond (.t 116) (.seq (.ops [ oq 117 (.mv (.t 16)),oq 118 (.mv (.t 0)),oq 119 (.mv (.t 1)),oq 120 (.mv (.t 11)),oq 121 (.nc (.t 120)),oq 122 (.fa 3 (.t 121)),oq 123 (.ld none (.t 122)),oq 124 (.ia 1 (.t 123) (.v (.int .i64 0))),oq 125 (.ld none (.t 124)),oe 126 (.call 114 [(.t 118),(.t 119),(.t 125)]),oq 8 (.mv (.t 117)),oq 9 (.mv (.v (.bool true))),oq 10 (.mv (.t 126))]) .ret) .skip)) (.seq (.ops [ oq 127 (.mv (.t 16)),oq 128 (.mv (.t 11)),oe 129 (.call 112 [(.t 128)]),oq 130 (.mv (.t 0)),oq 131 (.mv (.t 1)),oq 132 (.mv (.t 11)),oe 133 (.call 66 [(.t 130),(.t 131),(.t 132)]),oq 8 (.mv (.t 127)),oq 9 (.mv (.t 129)),oq 10 (.mv (.t 133))]) .ret))))))
def c52_56:ACode := .seq (.ops [ oq 8 (.mv (.v (.bool false))),oq 9 (.mv (.v (.bool false))),oq 10 (.mv (.v (.int .i64 0)))]) (.seq (.ops [ oq 20 (.mv (.t 0)),oq 21 (.mv (.t 1)),oe 22 (.call 38 [(.t 20),(.t 21)]),oq 19 (.mv (.t 22)),oq 23 (.ext 0 (.t 19)),oq 24 (.ext 1 (.t 19)),oq 11 (.mv (.t 23)),oq 12 (.mv (.t 24))]) (.seq (.seq (.ops [ oq 25 (.mv (.t 12)),oq 26 (.bin .eql (.t 25) (.v (.int .i64 0))),oq 27 (.mv (.t 26)),⟨some 28,some (27,true),.q (.mv (.t 3)),[]⟩,⟨some 29,some (27,true),.q (.bin .gtr (.t 28) (.v (.int .i64 20))),[]⟩,oq 30 (.pick (.t 27) (.t 29) (.v (.bool false)))]) (.cond (.t 30) (.ops [ oq 12 (.mv (.v (.int .i64 3)))]) .skip)) (.seq (.seq (.ops [ oq 31 (.mv (.t 12)),oq 32 (.bin .neq (.t 31) (.v (.int .i64 0)))]) (.cond (.t 32) (.seq (.ops [ oq 33 (.mv (.t 12)),oq 8 (.mv (.v (.bool false))),oq 9 (.mv (.v (.bool false))),oq 10 (.mv (.t 33))]) .ret) .skip)) c52_52)))
@[go_sem] def c52_52_wp:=wp_of c52_52.eq_1
@[go_sem] def c52_56_wp:=wp_of c52_56.eq_1
def c52:AFn:=⟨134,[.t 8,.t 9,.t 10],c52_56⟩
theorem c52_ok:compF Tryz.prog Tryz.f52=some c52:=by kernel_rfl
theorem a52 {args:List AV} {σ:ASt} {R:AV->ASt->Prop} (hl:args.length<=134) (h:c52_56.wp Tryz.prog (RetQ [.t 8,.t 9,.t 10] R) (init args) σ):ACalls Tryz.prog 52 args σ R:=acalls_of Tryz.func52 c52_ok hl h
/-! 112: (*tabular/tree.node).poor -/
def c112_9:ACode := .seq (.ops [ oq 2 (.mv (.v (.bool false)))]) (.seq (.seq (.ops [ oq 3 (.mv (.t 0)),oq 4 (.nc (.t 3)),oq 5 (.fa 0 (.t 4)),oq 6 (.ld none (.t 5))]) (.cond (.t 6) (.seq (.ops [ oq 7 (.mv (.t 0)),oq 8 (.nc (.t 7)),oq 9 (.fa 1 (.t 8)),oq 10 (.ld none (.t 9)),oq 11 (.len (.t 10)),oq 12 (.bin .lss (.t 11) (.v (.int .i64 15))),oq 2 (.mv (.t 12))]) .ret) .skip)) (.seq (.ops [ oq 13 (.mv (.t 0)),oq 14 (.nc (.t 13)),oq 15 (.fa 3 (.t 14)),oq 16 (.ld none (.t 15)),oq 17 (.len (.t 16)),oq 18 (.bin .lss (.t 17) (.v (.int .i64 20))),oq 2 (.mv (.t 18))]) .ret))
@[go_sem] def c112_9_wp:=wp_of c112_9.eq_1
def c112:AFn:=⟨19,[.t 2],c112_9⟩
theorem c112_ok:compF Tryz.prog Tryz.f112=some c112:=by kernel_rfl
theorem a112 {args:List AV} {σ:ASt} {R:AV->ASt->Prop} (hl:args.length<=19) (h:c112_9.wp Tryz.prog (RetQ [.t 2] R) (init args) σ):ACalls Tryz.prog 112 args σ R:=acalls_of Tryz.func112 c112_ok hl h
end Go.A
namespace Go.A
open Go.Proofs
theorem delL_len {l:List Nat} {i:Nat} (h:i<l.length):(delL l i).length=l.length-1:=by
 unfold delL
 rw [List.length_append,List.length_take,List.length_drop]
 omega
theorem delL_mem {l:List Nat} {i x:Nat} (h:x∈delL l i):x∈l:=by
 unfold delL at h
 rw [List.mem_append] at h
 exact h.elim List.mem_of_mem_take List.mem_of_mem_drop
theorem u64L_del {l:List Nat} {i:Nat} (h:u64L l):u64L (delL l i):=fun y hy=>h y (delL_mem hy)
section
variable {base base' σ σ':ASt} {p k page fa xa c t root n:Nat} {m:PX} {pg:Pgs} {dirty:Bool} {b:List UInt8} {nd:TN} {r:Role} {ks vs ds:List Nat}
theorem trpoor_leaf (hn:σ n=some r) (hr:NodeR r (.leaf ks vs)):ACalls Tryz.prog 112 [.ptr n 0] σ fun v σ'=>v = .bool (decide (ks.length<15))/\σ'=σ:=by
 obtain ⟨k1,k2,k3,rfl⟩:=hr
 have hkl:=kv_len .u64 ks
 generalize kv .u64 ks=KS at *
 refine a112 (by simp) ?_
 by_cases h:ks.length<15
 ·have h':(ks.length:Int)<15:=by omega
  rw [decide_eq_true h]
  simp (disch:=first|assumption|omega|(simp only [List.length_append,List.length_cons,List.length_nil];omega)) only [go_sem,hn,hkl,h']
  exact retC_by (.refl _) (.refl _) ⟨rfl,rfl⟩
 ·have h':¬ (ks.length:Int)<15:=by omega
  rw [decide_eq_false h]
  simp (disch:=first|assumption|omega|(simp only [List.length_append,List.length_cons,List.length_nil];omega)) only [go_sem,hn,hkl,h']
  exact retC_by (.refl _) (.refl _) ⟨rfl,rfl⟩
set_option maxHeartbeats 1000000 in
theorem trdrop_leaf (h:PoolAt base σ p m k pg) (ht:base t=some (.obj [.ptr p 0,.int .i64 root])) (hq:pg page=some b) (hl:TLeaf b ks vs) (hs:ks.Pairwise (· < ·)) {key deep:Nat} (hd:deep<=20) (hf:ks[lowI ks key]? = some key) :
  ACalls Tryz.prog 52 [.ptr t 0,.int .i64 page,.int .u64 key,.int .i64 deep] σ fun r σ'=>r = .tuple [.bool true,.bool (decide (ks.length<16)),.int .i64 0]/\∃ b',TLeaf b' (delL ks (lowI ks key)) (delL vs (lowI ks key))/\PoolAt base σ' p m k (pset pg page (some b')):=by
 have hd':¬ (20:Int)<(deep:Int):=by omega
 have hts:=h.at ht
 have hn0:=hl.n
 have hmost:=hl.most
 have hil:=(List.getElem?_eq_some_iff.1 hf).1
 refine a52 (by simp) ?_
 simp (disch:=first|assumption|omega|(simp only [List.length_append,List.length_cons,List.length_nil];omega)) only [go_sem,hts]
 refine (trload_leafM h ht hq hl).mono ?_
 rintro w σ1 ⟨n,x,y,base1,rfl,hm,hO,hp⟩
 have hn:=hp.at hm.hn
 have own:∀ {k:IntKind} {v:AV} {l:List Nat},OwnR base base1 k v l->OwnR base σ1 k v l:=fun {k v l} ho=>ho.mono fun X r hX hr=>hp.at hr
 have hbin:=(own hm.ha).bin64 (t:=key) (by omega) hs
 rw [decide_eq_true hf] at hbin
 simp (disch:=first|assumption|omega|(simp only [List.length_append,List.length_cons,List.length_nil];omega)) only [go_sem,hn,hd']
 refine hbin.mono ?_
 rintro w σ2 ⟨rfl,rfl⟩
 generalize lowI ks key=i at *
 have hi1:=(own hm.ha).del64 (i:=i) hil (by omega)
 have hb2:OwnR base (lessB σ2 x) .u64 y vs:=(own hm.hb).mono fun X r hX hr=>by rw [lessB_eq (fun e=>hm.ab X e hX)];exact hr
 have hi2:=hb2.del64 (i:=i) (by omega) (by omega)
 have hlen:(delL ks i).length=ks.length-1:=delL_len hil
 have hlen2:(delL vs i).length=ks.length-1:=by rw [delL_len (by omega),hn0]
 have hku:u64L (delL ks i):=u64L_del hl.ku
 have hvu:u64L (delL vs i):=u64L_del hl.vu
 have hxn:=node_hard hO hm.new hm.hn hm.ha hm.hb hm.na hm.nb hm.ab h.ck hp (.obj [.bool true,.sl .shr (kv .u64 (delL ks i)),.sl .shr (kv .u64 (delL vs i)),.sl .full []])
 have hr:NodeR (.obj [.bool true,.sl .shr (kv .u64 (delL ks i)),.sl .shr (kv .u64 (delL vs i)),.sl .full []]) (.leaf (delL ks i) (delL vs i)):=⟨_,_,_,rfl⟩
 generalize delL ks i=ks' at *
 generalize delL vs i=vs' at *
 have hcx:=hm.ha.cell
 have hcy:=hm.hb.cell
 simp (disch:=first|assumption|omega|(simp only [List.length_append,List.length_cons,List.length_nil];omega)) only [go_sem,hn]
 refine hi1.mono ?_
 rintro w σ3 ⟨rfl,rfl⟩
 have hn3:lessB σ2 x n=some (.obj [.bool true,x,y,.sl .full []]):=(lessB_eq hm.na).trans hn
 simp (disch:=first|assumption|omega|(simp only [List.length_append,List.length_cons,List.length_nil];omega)) only [go_sem,hn3]
 refine hi2.mono ?_
 rintro w σ4 ⟨rfl,rfl⟩
 have hn4:lessB (lessB σ2 x) y n=some (.obj [.bool true,x,y,.sl .full []]):=(lessB_eq hm.nb).trans hn3
 simp (disch:=first|assumption|omega|(simp only [List.length_append,List.length_cons,List.length_nil];omega)) only [go_sem,hn4,hcx,hcy]
 have hset:((lessB (lessB σ2 x) y).set n (some (.obj [.bool true,.sl .shr (kv .u64 ks'),.sl .shr (kv .u64 vs'),.sl .full []]))) n=some (.obj [.bool true,.sl .shr (kv .u64 ks'),.sl .shr (kv .u64 vs'),.sl .full []]):=ASt.set_same _ _ _
 generalize (lessB (lessB σ2 x) y).set n (some (.obj [.bool true,.sl .shr (kv .u64 ks'),.sl .shr (kv .u64 vs'),.sl .full []]))=σ5 at *
 have htn:t≠n:=fun e=>by rw [e,hm.new] at ht;cases ht
 have ht5:=(ASt.set_ne (σ:=base) (r:=some (.obj [.bool true,.sl .shr (kv .u64 ks'),.sl .shr (kv .u64 vs'),.sl .full []])) htn).trans ht
 refine (trpoor_leaf hset hr).mono ?_
 rintro w σ6 ⟨rfl,rfl⟩
 have hdd:decide (ks'.length<15)=decide (ks.length<16):=by congr 1;rw [hlen];exact propext ⟨fun _=>by omega,fun _=>by omega⟩
 rw [hdd]
 simp (disch:=first|assumption|omega|(simp only [List.length_append,List.length_cons,List.length_nil];omega)) only [go_sem]
 refine (trstore_ok (nd := .leaf ks' vs') hxn ht5 hq ⟨_,ASt.set_same _ _ _,hr⟩ ⟨by omega,by omega,hku,hvu⟩).mono ?_
 rintro w σ7 ⟨rfl,b',hb',h7⟩
 simp (disch:=first|assumption|omega|(simp only [List.length_append,List.length_cons,List.length_nil];omega)) only [go_sem]
 exact retC_by (.refl _) (.refl _) ⟨rfl,b',hb',h7.drop1 hm.new h.ck⟩
end
end Go.A
namespace Go.A
open Go.Proofs
/-! 113: (*tabular/tree.Tree).mend -/
end Go.A
namespace Go.A
open Go.Proofs
/-! 14: (*tabular/tree.Tree).Drop -/
def c14_5:ACode := .seq (.ops [ oq 4 (.mv (.v (.bool false))),oq 5 (.mv (.v (.int .i64 0)))]) (.seq (.ops [ oq 10 (.mv (.t 0)),oq 11 (.mv (.t 0)),oq 12 (.nc (.t 11)),oq 13 (.fa 1 (.t 12)),oq 14 (.ld none (.t 13)),oq 15 (.mv (.t 1)),oe 16 (.call 52 [(.t 10),(.t 14),(.t 15),(.v (.int .i64 0))]),oq 9 (.mv (.t 16)),oq 17 (.ext 0 (.t 9)),oq 18 (.ext 1 (.t 9)),oq 19 (.ext 2 (.t 9)),oq 6 (.mv (.t 17)),oq 7 (.mv (.t 18)),oq 8 (.mv (.t 19))]) (.seq (.ops [ oq 20 (.mv (.t 6)),oq 21 (.mv (.t 20)),⟨some 22,some (21,true),.q (.mv (.t 8)),[]⟩,⟨some 23,some (21,true),.q (.bin .eql (.t 22) (.v (.int .i64 0))),[]⟩,oq 24 (.pick (.t 21) (.t 23) (.v (.bool false))),oq 25 (.mv (.t 8)),oq 4 (.mv (.t 24)),oq 5 (.mv (.t 25))]) .ret))
@[go_sem] def c14_5_wp:=wp_of c14_5.eq_1
def c14:AFn:=⟨26,[.t 4,.t 5],c14_5⟩
theorem c14_ok:compF Tryz.prog Tryz.f14=some c14:=by kernel_rfl
theorem a14 {args:List AV} {σ:ASt} {R:AV->ASt->Prop} (hl:args.length<=26) (h:c14_5.wp Tryz.prog (RetQ [.t 4,.t 5] R) (init args) σ):ACalls Tryz.prog 14 args σ R:=acalls_of Tryz.func14 c14_ok hl h
end Go.A
namespace Go.A
open Go.Proofs
section
variable {base base1 σ σ':ASt} {p k page t root n:Nat} {m:PX} {pg:Pgs} {b:List UInt8} {nd:TN} {r:Role} {ks vs ds ks1 vs1 ks2 vs2:List Nat}
theorem trDrop_ok (h:PoolAt base σ p m k pg) (ht:base t=some (.obj [.ptr p 0,.int .i64 root])) {key:Nat} {Q:Pgs->Prop}
  (call:ACalls Tryz.prog 52 [.ptr t 0,.int .i64 root,.int .u64 key,.int .i64 0] σ fun r σ2=>∃ pr,r = .tuple [.bool true,.bool pr,.int .i64 0]/\∃ pg',Q pg'/\PoolAt base σ2 p m k pg') :
  ACalls Tryz.prog 14 [.ptr t 0,.int .u64 key] σ fun r σ2=>r = .tuple [.bool true,.int .i64 0]/\∃ pg',Q pg'/\PoolAt base σ2 p m k pg':=by
 have hts:=h.at ht
 refine a14 (by simp) ?_
 simp (disch:=first|assumption|omega|(simp only [List.length_append,List.length_cons,List.length_nil];omega)) only [go_sem,hts]
 refine call.mono ?_
 rintro w σ1 ⟨pr,rfl,pg',hQ,h1⟩
 simp (disch:=first|assumption|omega|(simp only [List.length_append,List.length_cons,List.length_nil];omega)) only [go_sem]
 exact retC_by (.refl _) (.refl _) ⟨rfl,pg',hQ,h1⟩
end
end Go.A
namespace Go.A
open Go.Proofs
def cntL (l:List Nat) (k:Nat):Nat:=l.countP fun x=>decide (x<=k)
theorem cntL_cons (x:Nat) (l:List Nat) (k:Nat):cntL (x::l) k=cntL l k+(if x<=k then 1 else 0):=by
 unfold cntL
 rw [List.countP_cons]
 congr 1
 by_cases h:x<=k
 ·simp [h]
 ·simp [h]
theorem cntL_gt {l:List Nat} {k:Nat} (h:∀ x∈l,k<x):cntL l k=0:=by
 unfold cntL
 rw [List.countP_eq_zero]
 intro x hx
 have:=h x hx
 simp
 omega
theorem cntL_le (l:List Nat) (k:Nat):cntL l k<=l.length:=List.countP_le_length
theorem kidI_cnt {l:List Nat} {k:Nat} (h:l.Pairwise (· < ·)):kidI l k=cntL l k:=by
 induction l with
 | nil=>rfl
 | cons x l ih=>
   rw [List.pairwise_cons] at h
   have ih:=ih h.2
   rw [cntL_cons]
   unfold kidI at ih ⊢
   rw [lowI_cons]
   by_cases hx:x<k
   ·rw [if_pos hx,List.getElem?_cons_succ,if_pos (show x<=k by omega)]
    split
    ·rename_i q;rw [if_pos q] at ih;omega
    ·rename_i q;rw [if_neg q] at ih;omega
   ·rw [if_neg hx]
    have h0:cntL l k=0:=cntL_gt fun y hy=>by have:=h.1 y hy;omega
    rw [h0]
    by_cases he:x=k
    ·subst he;simp
    ·rw [if_neg (by simp;exact he),if_neg (by omega)]
theorem split_at {l:List Nat} {j x:Nat} (h:l[j]? = some x):l=l.take j++x::l.drop (j+1):=by
 obtain ⟨hj,rfl⟩:=List.getElem?_eq_some_iff.1 h
 rw [List.getElem_cons_drop,List.take_append_drop]
theorem pair_ins {l:List Nat} {i x:Nat} (h:l.Pairwise (· < ·)) (h1:∀ y∈l.take i,y<x) (h2:∀ y∈l.drop i,x<y):(insL l i x).Pairwise (· < ·):=by
 unfold insL
 have hs:=h
 rw [<-List.take_append_drop i l,List.pairwise_append] at hs
 rw [List.pairwise_append,List.pairwise_cons]
 refine ⟨hs.1,⟨h2,hs.2.1⟩,fun a ha b hb=>?_⟩
 rcases List.mem_cons.1 hb with rfl|hb
 ·exact h1 a ha
 ·exact hs.2.2 a ha b hb
theorem pair_del {l:List Nat} {i:Nat} (h:l.Pairwise (· < ·)):(delL l i).Pairwise (· < ·):=by
 unfold delL
 refine h.sublist ?_
 have h1:List.Sublist (l.take i++l.drop (i+1)) (l.take i++l.drop i):=List.Sublist.append_left (by rw [<-List.drop_drop];exact List.drop_sublist 1 _) _
 rw [List.take_append_drop] at h1
 exact h1
theorem low_mem {l:List Nat} {k:Nat} (h:l.Pairwise (· < ·)):k∈l↔l[lowI l k]? = some k:=by
 constructor
 ·intro hk
  obtain ⟨i,hi⟩:=List.mem_iff_getElem?.1 hk
  have h1:lowI l k<=i:=lowI_ge h hi (Nat.le_refl k)
  rcases Nat.lt_or_eq_of_le h1 with h2|h2
  ·exfalso
   have hil:=(List.getElem?_eq_some_iff.1 hi).1
   obtain ⟨x,hx⟩:∃ x,l[lowI l k]? = some x:=⟨_,List.getElem?_eq_getElem (by omega)⟩
   have hxk:x<k:=by
    obtain ⟨q1,q2⟩:=List.getElem?_eq_some_iff.1 hx
    obtain ⟨q3,q4⟩:=List.getElem?_eq_some_iff.1 hi
    have:=List.pairwise_iff_getElem.1 h _ _ q1 q3 h2
    omega
   have:=lowI_lt h hx hxk
   omega
  ·rw [h2];exact hi
 ·exact fun hk=>List.mem_of_getElem? hk
theorem low_split {l:List Nat} {k:Nat} (h:l.Pairwise (· < ·)):(∀ y∈l.take (lowI l k),y<k)/\∀ y∈l.drop (lowI l k),k<=y:=by
 induction l with
 | nil=>exact ⟨fun y hy=>by simp at hy,fun y hy=>by simp at hy⟩
 | cons x l ih=>
   rw [List.pairwise_cons] at h
   have ih:=ih h.2
   rw [lowI_cons]
   by_cases hx:x<k
   ·rw [if_pos hx,List.take_succ_cons,List.drop_succ_cons]
    refine ⟨fun y hy=>?_,ih.2⟩
    rcases List.mem_cons.1 hy with rfl|hy
    ·exact hx
    ·exact ih.1 y hy
   ·rw [if_neg hx]
    refine ⟨fun y hy=>by simp at hy,fun y hy=>?_⟩
    rcases List.mem_cons.1 hy with rfl|hy
    ·omega
    ·have:=h.1 y hy;omega
def lk:List Nat->List Nat->Nat->Option Nat
 | k::ks,v::vs,x=>if k=x then some v else lk ks vs x
 | _,_,_=>none
theorem lk_nil (vs:List Nat) (x:Nat):lk [] vs x=none:=by
 cases vs<;>rfl
theorem lk_cons (k v:Nat) (ks vs:List Nat) (x:Nat):lk (k::ks) (v::vs) x=if k=x then some v else lk ks vs x:=rfl
theorem lk_no:∀ {ks vs:List Nat} {x:Nat},x ∉ ks->lk ks vs x=none
 | [],vs,x,_=>lk_nil vs x
 | k::ks,[],x,_=>rfl
 | k::ks,v::vs,x,h=>by
   rw [lk_cons,if_neg (fun (e:k=x)=>h (by rw [e];exact List.mem_cons_self))]
   exact lk_no fun hx=>h (List.mem_cons_of_mem _ hx)
theorem lk_app:∀ {a c:List Nat} {b d:List Nat} {x:Nat},a.length=c.length->lk (a++b) (c++d) x=(lk a c x).or (lk b d x)
 | [],[],b,d,x,_=>by rw [lk_nil];rfl
 | k::a,v::c,b,d,x,h=>by
   rw [List.cons_append,List.cons_append,lk_cons,lk_cons]
   split
   ·rfl
   ·exact lk_app (Nat.succ.inj h)
theorem lk_at:∀ {ks vs:List Nat} {i x v:Nat},ks.Pairwise (· < ·)->ks[i]? = some x->vs[i]? = some v->lk ks vs x=some v
 | [],vs,i,x,v,_,h,_=>by simp at h
 | k::ks,[],i,x,v,_,_,h=>by simp at h
 | k::ks,w::vs,0,x,v,hp,h1,h2=>by
   simp at h1 h2
   subst h1;subst h2
   rw [lk_cons,if_pos rfl]
 | k::ks,w::vs,i+1,x,v,hp,h1,h2=>by
   have h1:ks[i]? = some x:=h1
   have h2:vs[i]? = some v:=h2
   rw [List.pairwise_cons] at hp
   have:=hp.1 x (List.mem_of_getElem? h1)
   rw [lk_cons,if_neg (by omega)]
   exact lk_at hp.2 h1 h2
theorem lk_mem:∀ {ks vs:List Nat} {x v:Nat},lk ks vs x=some v->x∈ks
 | [],vs,x,v,h=>by rw [lk_nil] at h;cases h
 | k::ks,[],x,v,h=>by cases h
 | k::ks,w::vs,x,v,h=>by
   rw [lk_cons] at h
   split at h
   ·rename_i e;rw [e];exact List.mem_cons_self
   ·exact List.mem_cons_of_mem _ (lk_mem h)
theorem lk_some {ks vs:List Nat} {x:Nat} (hv:vs.length=ks.length) (h:x∈ks):∃ v,lk ks vs x=some v:=by
 induction ks generalizing vs with
 | nil=>simp at h
 | cons k ks ih=>
   cases vs with
   | nil=>simp at hv
   | cons v vs=>
     rw [lk_cons]
     by_cases e:k=x
     ·exact ⟨v,if_pos e⟩
     ·rw [if_neg e]
      rcases List.mem_cons.1 h with rfl|h
      ·exact absurd rfl e
      ·exact ih (Nat.succ.inj hv) h
section
variable {ks vs:List Nat} {i k v:Nat}
theorem lk_ins (hv:vs.length=ks.length) (hi:i<=ks.length) (hk:k ∉ ks) (x:Nat):lk (insL ks i k) (insL vs i v) x=if x=k then some v else lk ks vs x:=by
 have hl:(ks.take i).length=(vs.take i).length:=by rw [List.length_take,List.length_take];omega
 have h0:lk ks vs x=(lk (ks.take i) (vs.take i) x).or (lk (ks.drop i) (vs.drop i) x):=by
  rw [<-lk_app hl,List.take_append_drop,List.take_append_drop]
 unfold insL
 rw [lk_app hl,lk_cons]
 by_cases e:x=k
 ·subst e
  rw [if_pos rfl,if_pos rfl,lk_no fun h=>hk (List.mem_of_mem_take h)]
  rfl
 ·rw [if_neg (Ne.symm e),if_neg e,h0]
theorem lk_del (hp:ks.Pairwise (· < ·)) (hv:vs.length=ks.length) (hk:ks[i]? = some k) (x:Nat):lk (delL ks i) (delL vs i) x=if x=k then none else lk ks vs x:=by
 have hi:=(List.getElem?_eq_some_iff.1 hk).1
 have hl:(ks.take i).length=(vs.take i).length:=by rw [List.length_take,List.length_take];omega
 have hs:=split_at hk
 obtain ⟨w,hw⟩:∃ w,vs[i]? = some w:=⟨_,List.getElem?_eq_getElem (by omega)⟩
 have hsv:=split_at hw
 by_cases e:x=k
 ·subst e
  rw [if_pos rfl]
  refine lk_no fun hx=>?_
  rw [hs,List.pairwise_append,List.pairwise_cons] at hp
  unfold delL at hx
  rcases List.mem_append.1 hx with hx|hx
  ·have:=hp.2.2 x hx x List.mem_cons_self;omega
  ·have:=hp.2.1.1 x hx;omega
 ·rw [if_neg e]
  have h1:lk ks vs x=lk (ks.take i++k::ks.drop (i+1)) (vs.take i++w::vs.drop (i+1)) x:=by rw [<-hs,← hsv]
  unfold delL
  rw [h1,lk_app hl,lk_app hl,lk_cons,if_neg (Ne.symm e)]
end
end Go.A
namespace Go.A
open Go.Proofs
section
variable {α:Type}
def insG (l:List α) (i:Nat) (x:α):List α:=l.take i++x::l.drop i
def delG (l:List α) (i:Nat):List α:=l.take i++l.drop (i+1)
theorem insG_get {l:List α} {i:Nat} {x:α} (h:i<=l.length) (j:Nat):(insG l i x)[j]? = if j<i then l[j]? else if j=i then some x else l[j-1]? := by
 have hl:(l.take i).length=i:=by rw [List.length_take];omega
 unfold insG
 rw [List.getElem?_append,hl]
 by_cases h1:j<i
 ·rw [if_pos h1,if_pos h1,List.getElem?_take,if_pos h1]
 ·rw [if_neg h1,if_neg h1]
  by_cases h2:j=i
  ·subst h2;rw [if_pos rfl,Nat.sub_self];rfl
  ·rw [if_neg h2,show j-i=(j-i-1)+1 by omega,List.getElem?_cons_succ,List.getElem?_drop]
   congr 1
   omega
theorem delG_get {l:List α} {i:Nat} (h:i<l.length) (j:Nat):(delG l i)[j]? = if j<i then l[j]? else l[j+1]? := by
 have hl:(l.take i).length=i:=by rw [List.length_take];omega
 unfold delG
 rw [List.getElem?_append,hl]
 by_cases h1:j<i
 ·rw [if_pos h1,if_pos h1,List.getElem?_take,if_pos h1]
 ·rw [if_neg h1,if_neg h1,List.getElem?_drop]
  congr 1
  omega
end
theorem insL_G (l:List Nat) (i x:Nat):insL l i x=insG l i x:=rfl
theorem delL_G (l:List Nat) (i:Nat):delL l i=delG l i:=rfl
theorem nodup_inj {l:List Nat} {i j c:Nat} (h:l.Nodup) (hi:l[i]? = some c) (hj:l[j]? = some c):i=j:=by
 obtain ⟨a1,a2⟩:=List.getElem?_eq_some_iff.1 hi
 obtain ⟨b1,b2⟩:=List.getElem?_eq_some_iff.1 hj
 rcases Nat.lt_trichotomy i j with h1|h1|h1
 ·exact absurd (a2.trans b2.symm) (List.pairwise_iff_getElem.1 h _ _ a1 b1 h1)
 ·exact h1
 ·exact absurd (b2.trans a2.symm) (List.pairwise_iff_getElem.1 h _ _ b1 a1 h1)
theorem nodup_of {l:List Nat} (h:∀ (i j c:Nat),l[i]? = some c->l[j]? = some c->i=j):l.Nodup:=by
 refine List.pairwise_iff_getElem.2 fun i j hi hj hij e=>?_
 have:=h i j l[i] (List.getElem?_eq_getElem hi) (by rw [List.getElem?_eq_getElem hj,e])
 omega
theorem nodup_ins {l:List Nat} {i x:Nat} (h:l.Nodup) (hx:x ∉ l) (hi:i<=l.length):(insL l i x).Nodup:=by
 refine nodup_of fun a b c ha hb=>?_
 rw [insL_G,insG_get hi] at ha hb
 have hno:∀ {j:Nat},l[j]? = some x->False:=fun hj=>hx (List.mem_of_getElem? hj)
 split at ha<;>split at hb
 ·exact nodup_inj h ha hb
 ·split at hb
  ·injection hb with hb;subst hb;exact absurd ha hno
  ·have:=nodup_inj h ha hb;omega
 ·split at ha
  ·injection ha with ha;subst ha;exact absurd hb hno
  ·have:=nodup_inj h ha hb;omega
 ·split at ha<;>split at hb
  ·omega
  ·injection ha with ha;subst ha;exact absurd hb hno
  ·injection hb with hb;subst hb;exact absurd ha hno
  ·have:=nodup_inj h ha hb;omega
theorem nodup_del {l:List Nat} {i:Nat} (h:l.Nodup) (hi:i<l.length):(delL l i).Nodup:=by
 refine nodup_of fun a b c ha hb=>?_
 rw [delL_G,delG_get hi] at ha hb
 split at ha<;>split at hb<;>have:=nodup_inj h ha hb<;>omega
abbrev Lf:=List Nat×List Nat
structure Two (pg:Pgs) (root:Nat) (seps ds:List Nat) (Ls:List Lf):Prop where
 rt:∃ b,pg root=some b/\TInner b seps ds
 sp:seps.Pairwise (· < ·)
 n:Ls.length=ds.length
 lf:∀ (i c:Nat) (L:Lf),ds[i]? = some c->Ls[i]? = some L->∃ b,pg c=some b/\TLeaf b L.1 L.2
 so:∀ (i:Nat) (L:Lf),Ls[i]? = some L->L.1.Pairwise (· < ·)/\15<=L.1.length
 wh:∀ (i:Nat) (L:Lf) (k:Nat),Ls[i]? = some L->k∈L.1->cntL seps k=i
 nd:ds.Nodup
 rn:root ∉ ds
def twoG (seps:List Nat) (Ls:List Lf) (k:Nat):Option Nat:=(Ls[cntL seps k]?).bind fun L=>lk L.1 L.2 k
section
variable {pg:Pgs} {root i j c c2 q mid:Nat} {seps ds:List Nat} {Ls:List Lf} {L L2 A B:Lf} {b b1 b2 b3:List UInt8}
theorem Two.len (h:Two pg root seps ds Ls):ds.length=seps.length+1:=by
 obtain ⟨b,_,hb⟩:=h.rt
 exact hb.n
theorem twoG_at (hL:Ls[i]? = some L) {k:Nat} (hk:cntL seps k=i):twoG seps Ls k=lk L.1 L.2 k:=by
 unfold twoG
 rw [hk,hL]
 rfl
end
end Go.A
namespace Go.A
open Go.Proofs
def TrAt (pg:Pgs) (root:Nat) (T:Nat->Prop) (M:Nat->Option Nat):Prop:=
 (∃ b ks vs,pg root=some b/\TLeaf b ks vs/\ks.Pairwise (· < ·)/\(∀ q,T q↔q=root)/\∀ k,M k=lk ks vs k) ∨
 ∃ seps ds Ls,Two pg root seps ds Ls/\(∀ q,T q↔q=root\/q∈ds)/\∀ k,M k=twoG seps Ls k
def Fr (T:Nat->Prop) (pg:Pgs) (T':Nat->Prop) (pg':Pgs):Prop:=∀ q,¬ T q->pg q≠none->¬ T' q/\pg' q=pg q
def upM (M:Nat->Option Nat) (k:Nat) (v:Option Nat):Nat->Option Nat:=fun x=>if x=k then v else M x
section
variable {base σ σ':ASt} {p k t root:Nat} {m:PX} {pg:Pgs} {T:Nat->Prop} {M:Nat->Option Nat} {seps ds:List Nat} {Ls:List Lf}
theorem lk_get {ks vs:List Nat} (hv:vs.length=ks.length) (hp:ks.Pairwise (· < ·)) (key:Nat):(∃ v,lk ks vs key=some v/\ks[lowI ks key]? = some key/\vs[lowI ks key]? = some v)\/lk ks vs key=none/\ks[lowI ks key]? ≠ some key:=by
 by_cases h:key∈ks
 ·have h1:=(low_mem hp).1 h
  have hl:=(List.getElem?_eq_some_iff.1 h1).1
  obtain ⟨v,hv2⟩:∃ v,vs[lowI ks key]? = some v:=⟨_,List.getElem?_eq_getElem (by omega)⟩
  exact .inl ⟨v,lk_at hp h1 hv2,h1,hv2⟩
 ·exact .inr ⟨lk_no h,fun e=>h ((low_mem hp).2 e)⟩
theorem Two.at (h:Two pg root seps ds Ls) (key:Nat):∃ c L b,ds[cntL seps key]? = some c/\Ls[cntL seps key]? = some L/\pg c=some b/\TLeaf b L.1 L.2/\twoG seps Ls key=lk L.1 L.2 key:=by
 have hl:=h.len
 have:=cntL_le seps key
 obtain ⟨c,hc⟩:∃ c,ds[cntL seps key]? = some c:=⟨_,List.getElem?_eq_getElem (by omega)⟩
 obtain ⟨L,hL⟩:∃ L,Ls[cntL seps key]? = some L:=⟨_,List.getElem?_eq_getElem (by rw [h.n];omega)⟩
 obtain ⟨b,h1,h2⟩:=h.lf _ c L hc hL
 exact ⟨c,L,b,hc,hL,h1,h2,twoG_at hL rfl⟩
theorem trget_at (h:PoolAt base σ p m k pg) (ht:base t=some (.obj [.ptr p 0,.int .i64 root])) (hT:TrAt pg root T M) (key:Nat) :
  ACalls Tryz.prog 12 [.ptr t 0,.int .u64 key] σ fun r σ'=>r = .tuple [.int .u64 ((M key).getD 0),.bool (M key).isSome,.int .i64 0]/\PoolAt base σ' p m k pg:=by
 have fin:∀ {ks vs:List Nat} {b:List UInt8} {D:Nat} {P:Nat->Nat},D<=10->P 0=root->(∀ i,i<D->∃ b ks ds,pg (P i)=some b/\TInner b ks ds/\ks.Pairwise (· < ·)/\ds[kidI ks key]? = some (P (i+1)))->pg (P D)=some b->TLeaf b ks vs->ks.Pairwise (· < ·)->M key=lk ks vs key →
   ACalls Tryz.prog 12 [.ptr t 0,.int .u64 key] σ fun r σ'=>r = .tuple [.int .u64 ((M key).getD 0),.bool (M key).isSome,.int .i64 0]/\PoolAt base σ' p m k pg:=fun {ks vs b D P} hD hP hin hq hl hs hM=>by
  rw [hM]
  rcases lk_get hl.n hs key with ⟨v,h1,h2,h3⟩|⟨h1,h2⟩
  ·rw [h1]
   exact trget_ok h ht hD hP hin hq hl hs (v:=v) (fd:=true) (.inl ⟨rfl,h2,h3⟩)
  ·rw [h1]
   exact trget_ok h ht hD hP hin hq hl hs (v:=0) (fd:=false) (.inr ⟨rfl,h2,rfl⟩)
 rcases hT with ⟨b,ks,vs,h1,h2,h3,h4,h5⟩|⟨seps,ds,Ls,h1,h2,h3⟩
 ·exact fin (D:=0) (P:=fun _=>root) (by omega) rfl (fun i hi=>absurd hi (Nat.not_lt_zero _)) h1 h2 h3 (h5 key)
 ·obtain ⟨c,L,b,hc,hL,hb,hl,hg⟩:=h1.at key
  obtain ⟨br,r1,r2⟩:=h1.rt
  refine fin (D:=1) (P:=fun i=>if i=0 then root else c) (by omega) rfl (fun i hi=>?_) hb hl (h1.so _ L hL).1 ((h3 key).trans hg)
  obtain rfl:i=0:=by omega
  exact ⟨br,seps,ds,r1,r2,h1.sp,by rw [kidI_cnt h1.sp];exact hc⟩
end
end Go.A
namespace Go.A
open Go.Proofs
theorem mem_ins {l:List Nat} {i x y:Nat}:y∈insL l i x↔y=x\/y∈l:=by
 unfold insL
 rw [List.mem_append,List.mem_cons]
 constructor
 ·rintro (h|h|h)
  ·exact .inr (List.mem_of_mem_take h)
  ·exact .inl h
  ·exact .inr (List.mem_of_mem_drop h)
 ·rintro (h|h)
  ·exact .inr (.inl h)
  ·rw [<-List.take_append_drop i l,List.mem_append] at h
   exact h.imp id .inr
theorem pair_insL {ks:List Nat} {key:Nat} (hp:ks.Pairwise (· < ·)) (hn:key ∉ ks):(insL ks (lowI ks key) key).Pairwise (· < ·):=by
 obtain ⟨h1,h2⟩:=low_split (k:=key) hp
 refine pair_ins hp h1 fun y hy=>?_
 have:=h2 y hy
 have:y≠key:=fun e=>hn (e▸List.mem_of_mem_drop hy)
 omega
end Go.A
namespace Go.A
open Go.Proofs
/-! 35: tabular/seq.encode -/
def c35_14:ACode := .seq (.ops [ oq 33 (.bin .lss (.t 32) (.t 31))]) (.seq (.cond (.t 33) .skip (.exit 0)) (.seq (.block 1 (.seq (.ops [ oq 34 (.mv (.t 32)),oq 35 (.ia 1 (.t 30) (.t 32)),oq 36 (.ld none (.t 35)),oq 4 (.mv (.t 34)),oq 5 (.mv (.t 36))]) (.ops [ oq 37 (.mv (.t 0)),oq 38 (.mv (.t 4)),oq 39 (.bin .mul (.v (.int .i64 8)) (.t 38)),oq 40 (.bin .add (.v (.int .i64 8)) (.t 39)),oq 41 (.slfrom (false,1) (.t 37) (.t 40)),oq 42 (.mv (.t 5)),oe 43 (.call 89 [(.t 41),(.t 42)])]))) (.ops [ oq 44 (.bin .add (.t 32) (.v (.int .i64 1))),oq 32 (.mv (.t 44))])))
def c35_35:ACode := .seq (.ops [ oq 53 (.bin .lss (.t 52) (.t 51))]) (.seq (.cond (.t 53) .skip (.exit 2)) (.seq (.block 3 (.seq (.ops [ oq 54 (.mv (.t 52)),oq 55 (.ia 1 (.t 50) (.t 52)),oq 56 (.ld none (.t 55)),oq 6 (.mv (.t 54)),oq 7 (.mv (.t 56))]) (.seq (.ops [ oq 57 (.mv (.t 0)),oq 58 (.mv (.t 6)),oq 59 (.bin .mul (.v (.int .i64 8)) (.t 58)),oq 60 (.bin .add (.v (.int .i64 8)) (.t 59)),oq 61 (.slfrom (false,1) (.t 57) (.t 60)),oq 62 (.mv (.t 7)),oq 63 (.conv .u32 (.t 62)),oe 64 (.call 36 [(.t 61),(.t 63)])]) (.ops [ oq 65 (.mv (.t 0)),oq 66 (.mv (.t 6)),oq 67 (.bin .mul (.v (.int .i64 8)) (.t 66)),oq 68 (.bin .add (.v (.int .i64 12)) (.t 67)),oq 69 (.slfrom (false,1) (.t 65) (.t 68)),oq 70 (.mv (.t 1)),oq 71 (.nc (.t 70)),oq 72 (.fa 4 (.t 71)),oq 73 (.ld none (.t 72)),oq 74 (.mv (.t 6)),oq 75 (.ia 1 (.t 73) (.t 74)),oq 76 (.ld none (.t 75)),oq 77 (.conv .u32 (.t 76)),oe 78 (.call 36 [(.t 69),(.t 77)])])))) (.ops [ oq 79 (.bin .add (.t 52) (.v (.int .i64 1))),oq 52 (.mv (.t 79))])))
def c35_42:ACode := .seq (.ops [ oq 8 (.mv (.t 0)),oq 9 (.mv (.t 1)),oe 10 (.call 91 [(.t 9)]),oq 11 (.conv .u8 (.t 10)),oq 12 (.ia 1 (.t 8) (.v (.int .i64 1))),oz (.store 1 (.t 12) (.t 11))]) (.seq (.ops [ oq 13 (.mv (.t 0)),oq 14 (.slfrom (false,1) (.t 13) (.v (.int .i64 4))),oq 15 (.mv (.t 1)),oq 16 (.nc (.t 15)),oq 17 (.fa 1 (.t 16)),oq 18 (.ld none (.t 17)),oq 19 (.conv .u32 (.t 18)),oe 20 (.call 36 [(.t 14),(.t 19)])]) (.seq (.seq (.ops [ oq 21 (.mv (.t 1)),oq 22 (.nc (.t 21)),oq 23 (.fa 0 (.t 22)),oq 24 (.ld none (.t 23))]) (.cond (.t 24) (.seq (.ops [ oq 25 (.mv (.t 0)),oq 26 (.ia 1 (.t 25) (.v (.int .i64 0))),oz (.store 1 (.t 26) (.v (.int .u8 1)))]) (.seq (.seq (.ops [ oq 27 (.mv (.t 1)),oq 28 (.nc (.t 27)),oq 29 (.fa 2 (.t 28)),oq 30 (.ld none (.t 29)),oq 31 (.len (.t 30)),oq 32 (.mv (.v (.int .i64 0)))]) (.block 0 (.loop c35_14))) .ret)) .skip)) (.seq (.ops [ oq 45 (.mv (.t 0)),oq 46 (.ia 1 (.t 45) (.v (.int .i64 0))),oz (.store 1 (.t 46) (.v (.int .u8 2)))]) (.seq (.ops [ oq 47 (.mv (.t 1)),oq 48 (.nc (.t 47)),oq 49 (.fa 3 (.t 48)),oq 50 (.ld none (.t 49)),oq 51 (.len (.t 50)),oq 52 (.mv (.v (.int .i64 0)))]) (.block 2 (.loop c35_35))))))
@[go_sem] def c35_14_wp:=wp_of c35_14.eq_1
@[go_sem] def c35_35_wp:=wp_of c35_35.eq_1
@[go_sem] def c35_42_wp:=wp_of c35_42.eq_1
def c35:AFn:=⟨80,[],c35_42⟩
theorem c35_ok:compF Tryz.prog Tryz.f35=some c35:=by kernel_rfl
theorem a35 {args:List AV} {σ:ASt} {R:AV->ASt->Prop} (hl:args.length<=80) (h:c35_42.wp Tryz.prog (RetQ [] R) (init args) σ):ACalls Tryz.prog 35 args σ R:=acalls_of Tryz.func35 c35_ok hl h
/-! 91: (*tabular/seq.node).size -/
def c91_3:ACode := .seq (.ops [ oq 2 (.mv (.v (.int .i64 0)))]) (.seq (.ops [ oq 3 (.mv (.t 0)),oq 4 (.nc (.t 3)),oq 5 (.fa 2 (.t 4)),oq 6 (.ld none (.t 5)),oq 7 (.len (.t 6)),oq 8 (.mv (.t 0)),oq 9 (.nc (.t 8)),oq 10 (.fa 3 (.t 9)),oq 11 (.ld none (.t 10)),oq 12 (.len (.t 11)),oq 13 (.bin .add (.t 7) (.t 12)),oq 2 (.mv (.t 13))]) .ret)
@[go_sem] def c91_3_wp:=wp_of c91_3.eq_1
def c91:AFn:=⟨14,[.t 2],c91_3⟩
theorem c91_ok:compF Tryz.prog Tryz.f91=some c91:=by kernel_rfl
theorem a91 {args:List AV} {σ:ASt} {R:AV->ASt->Prop} (hl:args.length<=14) (h:c91_3.wp Tryz.prog (RetQ [.t 2] R) (init args) σ):ACalls Tryz.prog 91 args σ R:=acalls_of Tryz.func91 c91_ok hl h
/-! 118: (*tabular/seq.node).most -/
def c118_9:ACode := .seq (.ops [ oq 2 (.mv (.v (.int .i64 0)))]) (.seq (.seq (.ops [ oq 3 (.mv (.t 0)),oq 4 (.nc (.t 3)),oq 5 (.fa 0 (.t 4)),oq 6 (.ld none (.t 5))]) (.cond (.t 6) (.seq (.ops [ oq 2 (.mv (.v (.int .i64 48)))]) .ret) .skip)) (.seq (.ops [ oq 2 (.mv (.v (.int .i64 40)))]) .ret))
@[go_sem] def c118_9_wp:=wp_of c118_9.eq_1
def c118:AFn:=⟨7,[.t 2],c118_9⟩
theorem c118_ok:compF Tryz.prog Tryz.f118=some c118:=by kernel_rfl
theorem a118 {args:List AV} {σ:ASt} {R:AV->ASt->Prop} (hl:args.length<=7) (h:c118_9.wp Tryz.prog (RetQ [.t 2] R) (init args) σ):ACalls Tryz.prog 118 args σ R:=acalls_of Tryz.func118 c118_ok hl h
end Go.A
namespace Go.A
open Go.Proofs
inductive SN where
 | leaf (up:Nat) (ids:List Nat)
 | inner (up:Nat) (ds cs:List Nat)
structure SLeaf (b:List UInt8) (up:Nat) (ids:List Nat):Prop where
 len:b.length=504
 b0:b[0]? = some 1
 b1:b[1]? = some (UInt8.ofNat ids.length)
 ub:bat b 4 4=le32 up
 most:ids.length<=48
 uu:up<4294967296
 iu:u64L ids
 i:∀ (i x:Nat),ids[i]? = some x->bat b (8+8*i) 8=le64 x
structure SInner (b:List UInt8) (up:Nat) (ds cs:List Nat):Prop where
 len:b.length=504
 b0:b[0]? = some 2
 b1:b[1]? = some (UInt8.ofNat ds.length)
 ub:bat b 4 4=le32 up
 n:cs.length=ds.length
 most:ds.length<=40
 uu:up<4294967296
 du:u32L ds
 cu:u32L cs
 d:∀ (i x:Nat),ds[i]? = some x->bat b (8+8*i) 4=le32 x
 c:∀ (i x:Nat),cs[i]? = some x->bat b (12+8*i) 4=le32 x
def SNodeR (r:Role):SN->Prop
 | .leaf up ids=>∃ k1,r = .obj [.bool true,.int .i64 up,.sl k1 (kv .u64 ids),.sl .full [],.sl .full []]
 | .inner up ds cs=>∃ k1 k2 k3,r = .obj [.bool false,.int .i64 up,.sl k1 [],.sl k2 (kv .i64 ds),.sl k3 (kv .i64 cs)]
def SN.size:SN->Nat
 | .leaf _ ids=>ids.length
 | .inner _ ds _=>ds.length
section
variable {σ:ASt} {X n c up:Nat} {b:List UInt8} {ids ds cs:List Nat} {r:Role} {nd:SN}
theorem sqsize_ok (hn:σ n=some r) (hr:SNodeR r nd) (hz:nd.size<=1000):ACalls Tryz.prog 91 [.ptr n 0] σ fun v σ'=>v = .int .i64 nd.size/\σ'=σ:=by
 cases nd with
 | leaf up ids=>
   obtain ⟨k1,rfl⟩:=hr
   have hkl:=kv_len .u64 ids
   have hz:ids.length<=1000:=hz
   show ACalls _ _ _ _ fun v σ'=>v = .int .i64 (ids.length:Nat)/\σ'=σ
   generalize kv .u64 ids=KS at *
   refine a91 (by simp) ?_
   simp (disch:=first|assumption|omega|(simp only [List.length_append,List.length_cons,List.length_nil];omega)) only [go_sem,hn,hkl]
   exact retC_by (.refl _) (.refl _) ⟨rfl,rfl⟩
 | inner up ds cs=>
   obtain ⟨k1,k2,k3,rfl⟩:=hr
   have hkl:=kv_len .i64 ds
   have hz:ds.length<=1000:=hz
   show ACalls _ _ _ _ fun v σ'=>v = .int .i64 (ds.length:Nat)/\σ'=σ
   generalize kv .i64 ds=KS at *
   refine a91 (by simp) ?_
   simp (disch:=first|assumption|omega|(simp only [List.length_append,List.length_cons,List.length_nil];omega)) only [go_sem,hn,hkl,Int.zero_add]
   exact retC_by (.refl _) (.refl _) ⟨rfl,rfl⟩
theorem sqmost_ok {ld:Bool} {xs:List AV} (hn:σ n=some (.obj (.bool ld::xs))):ACalls Tryz.prog 118 [.ptr n 0] σ fun v σ'=>v = .int .i64 (if ld then 48 else 40)/\σ'=σ:=by
 refine a118 (by simp) ?_
 cases ld
 ·simp (disch:=first|assumption|omega|(simp only [List.length_append,List.length_cons,List.length_nil];omega)) only [go_sem,hn]
  exact retC_by (.refl _) (.refl _) ⟨rfl,rfl⟩
 ·simp (disch:=first|assumption|omega|(simp only [List.length_append,List.length_cons,List.length_nil];omega)) only [go_sem,hn]
  exact retC_by (.refl _) (.refl _) ⟨rfl,rfl⟩
set_option maxHeartbeats 1000000 in
theorem sqenc_leaf (hX:σ X=some (.obj (bytesAV b))) (hb:b.length=504) (hc:504<=c) (hn:σ n=some r) (hr:SNodeR r (.leaf up ids)) (hnX:n≠X) (hm:ids.length<=48) (huu:up<4294967296) (hiu:u64L ids) :
  ACalls Tryz.prog 35 [.msl X 0 504 c,.ptr n 0] σ fun r σ'=>r = .tuple []/\∃ b',SLeaf b' up ids/\σ'=σ.set X (some (.obj (bytesAV b'))):=by
 have hsz:=sqsize_ok hn hr (by show ids.length<=1000;omega)
 obtain ⟨k1,rfl⟩:=hr
 have hkl:=kv_len .u64 ids
 have hkg:=fun (i n:Nat) (h:ids[i]? = some n)=>kv_get (k := .u64) h
 generalize kv .u64 ids=KS at *
 have w1:IntKind.wrap .u8 (ids.length:Int)=((UInt8.ofNat ids.length).toNat:Int):=w_ofNat _
 have w2:IntKind.wrap .u32 (up:Int)=(up:Int):=by rw [IntKind.wrap_u32];omega
 have p1:=put_byte (b:=b) (o:=1) (UInt8.ofNat ids.length)
 obtain ⟨b1,hb1⟩:∃ b1,b1=spl b 1 [UInt8.ofNat ids.length]:=⟨_,rfl⟩
 have l1:b1.length=504:=by rw [hb1,spl_len (by simp only [List.length_singleton];omega)];exact hb
 have x1:b1[1]? = some (UInt8.ofNat ids.length):=by rw [hb1];exact get_same (by omega)
 rw [<-hb1] at p1
 have c2:=mput32_ok (σ:=σ.set X (some (.obj (bytesAV b1)))) (B:=X) (o:=4) (n:=504-4) (c:=c-4) (v:=up) (ASt.set_same _ _ _) (by omega) (by omega) huu
 obtain ⟨b2,hb2⟩:∃ b2,b2=spl b1 4 (le32 up):=⟨_,rfl⟩
 have l2:b2.length=504:=by rw [hb2,spl_len (by rw [le32_len];omega)];exact l1
 have y1:b2[1]? = some (UInt8.ofNat ids.length):=by rw [hb2,get_else (by rw [le32_len];omega) (by omega)];exact x1
 have y4:bat b2 4 4=le32 up:=by rw [hb2];exact bat_same (by rw [le32_len];omega)
 rw [<-hb2,ASt.set_set] at c2
 have p3:=put_byte (b:=b2) (o:=0) 1
 obtain ⟨b3,hb3⟩:∃ b3,b3=spl b2 0 [1]:=⟨_,rfl⟩
 have l3:b3.length=504:=by rw [hb3,spl_len (by simp only [List.length_singleton];omega)];exact l2
 have z1:b3[1]? = some (UInt8.ofNat ids.length):=by rw [hb3,get_else (by simp only [List.length_singleton];omega) (by simp)];exact y1
 have z0:b3[0]? = some 1:=by rw [hb3];exact get_same (by omega)
 have z4:bat b3 4 4=le32 up:=by rw [hb3,bat_else (by simp only [List.length_singleton];omega) (by simp)];exact y4
 rw [<-hb3] at p3
 clear hb1 hb2 hb3
 have hs4:slV (false,1) (.msl X 0 504 c) 4 504=some (.msl X 4 (504-4) (c-4)):=slV_page (o:=4) (by omega) hc
 have hB0:1+1<=(bytesAV b).length:=by rw [kbytes_len];omega
 have hB2:0+1<=(bytesAV b2).length:=by rw [kbytes_len];omega
 generalize hM0:bytesAV b=M0 at *
 generalize hM2:bytesAV b2=M2 at *
 have e1u:((1:UInt8).toNat:Int)=1:=rfl
 rw [e1u] at p3
 have i1:(1:Int).toNat=1:=rfl
 have i0:(0:Int).toNat=0:=rfl
 rw [List.take_zero,List.nil_append] at p3
 have hszz:(SN.leaf up ids).size=ids.length:=rfl
 rw [hszz] at hsz
 generalize hL:ids.length=L at *
 refine a35 (by simp) ?_
 simp (disch:=first|assumption|omega|(simp only [List.length_append,List.length_cons,List.length_nil];omega)) only [go_sem]
 refine hsz.mono ?_
 rintro r0 σ0 ⟨rfl,rfl⟩
 simp (disch:=first|assumption|omega|(simp only [List.length_append,List.length_cons,List.length_nil];omega)) only [go_sem,hn,hkl,w1,hX,hB0,p1,i0,i1,hs4,w2,hnX,Nat.zero_add]
 refine c2.mono ?_
 rintro r0 σ1 ⟨rfl,rfl⟩
 simp (disch:=first|assumption|omega|(simp only [List.length_append,List.length_cons,List.length_nil];omega)) only [go_sem,hn,hkl,hnX,hB2,p3,i0,i1,Nat.zero_add]
 obtain ⟨J,hJ⟩:∃ J:Nat->AFr->ASt->Prop,J=fun i a1 s2=>i<=L/\(a1 0 = .msl X 0 504 c/\a1 30 = .sl k1 KS/\a1 31 = .int .i64 L/\a1 32 = .int .i64 i)/\∃ b',b'.length=504/\b'[0]? = some 1/\b'[1]? = some (UInt8.ofNat L)/\bat b' 4 4=le32 up ∧
   (∀ (j x:Nat),j<i->ids[j]? = some x->bat b' (8+8*j) 8=le64 x)/\s2=σ0.set X (some (.obj (bytesAV b'))):=⟨_,rfl⟩
 refine wp_loop_on J (fun i=>L-i) 0 ?_ ?_
 ·rw [hJ]
  refine ⟨Nat.zero_le _,?_,b3,l3,z0,z1,z4,fun j k hj=>absurd hj (Nat.not_lt_zero _),rfl⟩
  simp (disch:=first|assumption|omega|(simp only [List.length_append,List.length_cons,List.length_nil];omega)) only [go_sem]
 intro i a1 s2 hj
 rw [hJ] at hj
 obtain ⟨hi,hf,b',hb',h0,h1,h4,hk,rfl⟩:=hj
 by_cases hlt:i<L
 ·have hlt':(i:Int)<(L:Int):=by omega
  obtain ⟨k,hk1⟩:∃ k,ids[i]? = some k:=⟨_,List.getElem?_eq_getElem (by omega)⟩
  have hg1:=hkg i k hk1
  have hs1:slV (false,1) (.msl X 0 504 c) (8+8*(i:Int)) 504=some (.msl X (8+8*i) (504-(8+8*i)) (c-(8+8*i))):=slV_page (o:=8+8*i) (by omega) hc
  have ku:=hiu k (List.mem_of_getElem? hk1)
  have c1:=mput64_ok (σ:=σ0.set X (some (.obj (bytesAV b')))) (B:=X) (o:=8+8*i) (n:=504-(8+8*i)) (c:=c-(8+8*i)) (v:=k) (ASt.set_same _ _ _) (by omega) (by omega) (by omega) ku
  obtain ⟨b4,hb4⟩:∃ b4,b4=spl b' (8+8*i) (le64 k):=⟨_,rfl⟩
  have l4:b4.length=504:=by rw [hb4,spl_len (by rw [le64_len];omega)];exact hb'
  rw [<-hb4,ASt.set_set] at c1
  have f4:∀ o n,o+n<=8+8*i\/8+8*i+8<=o->bat b4 o n=bat b' o n:=fun o n h=>by rw [hb4];exact bat_else (by rw [le64_len];omega) h
  have q4:bat b4 (8+8*i) 8=le64 k:=by rw [hb4];exact bat_same (by rw [le64_len];omega)
  have y0:b4[0]? = some 1:=by rw [hb4,get_else (by rw [le64_len];omega) (by omega)];exact h0
  have y1:b4[1]? = some (UInt8.ofNat L):=by rw [hb4,get_else (by rw [le64_len];omega) (by omega)];exact h1
  clear hb4
  simp (disch:=first|assumption|omega|(simp only [List.length_append,List.length_cons,List.length_nil];omega)) only [go_sem,hf,hlt',hg1,hs1,Int.toNat_natCast]
  refine c1.mono ?_
  rintro r σ1 ⟨rfl,rfl⟩
  simp (disch:=first|assumption|omega|(simp only [List.length_append,List.length_cons,List.length_nil];omega)) only [go_sem,hf]
  refine ⟨i+1,by omega,?_⟩
  rw [hJ]
  refine ⟨by omega,?_,b4,l4,y0,y1,by rw [f4 _ _ (by omega)];exact h4,fun j k' hj hk'=>?_,rfl⟩
  ·simp (disch:=first|assumption|omega|(simp only [List.length_append,List.length_cons,List.length_nil];omega)) only [go_sem,hf]
  ·by_cases hji:j=i
   ·subst hji
    rw [hk1] at hk'
    rw [<-Option.some.inj hk']
    exact q4
   ·rw [f4 _ _ (by omega)]
    exact hk j k' (by omega) hk'
 ·have hlt':¬ (i:Int)<(L:Int):=by omega
  obtain rfl:i=L:=by omega
  have hfin:SLeaf b' up ids:=⟨hb',h0,by rw [hL];exact h1,h4,by rw [hL];exact hm,huu,hiu,fun j k hk'=>hk j k (by have:=(List.getElem?_eq_some_iff.1 hk').1;omega) hk'⟩
  simp (disch:=first|assumption|omega|(simp only [List.length_append,List.length_cons,List.length_nil];omega)) only [go_sem,hf,hlt']
  exact retC_by (.refl _) (.refl _) ⟨rfl,b',hfin,rfl⟩
set_option maxHeartbeats 1000000 in
theorem sqenc_inner (hX:σ X=some (.obj (bytesAV b))) (hb:b.length=504) (hc:504<=c) (hn:σ n=some r) (hr:SNodeR r (.inner up ds cs)) (hnX:n≠X) (hcs:cs.length=ds.length) (hm:ds.length<=40) (huu:up<4294967296) (hdu:u32L ds) (hcu:u32L cs) :
  ACalls Tryz.prog 35 [.msl X 0 504 c,.ptr n 0] σ fun r σ'=>r = .tuple []/\∃ b',SInner b' up ds cs/\σ'=σ.set X (some (.obj (bytesAV b'))):=by
 have hsz:=sqsize_ok hn hr (by show ds.length<=1000;omega)
 obtain ⟨k1,k2,k3,rfl⟩:=hr
 have hkl:=kv_len .i64 ds
 have hcl:=kv_len .i64 cs
 have hkg:=fun (i n:Nat) (h:ds[i]? = some n)=>kv_get (k := .i64) h
 have hcg:=fun (i n:Nat) (h:cs[i]? = some n)=>kv_get (k := .i64) h
 generalize kv .i64 ds=KS at *
 generalize kv .i64 cs=CS at *
 have w1:IntKind.wrap .u8 (ds.length:Int)=((UInt8.ofNat ds.length).toNat:Int):=w_ofNat _
 have w2:IntKind.wrap .u32 (up:Int)=(up:Int):=by rw [IntKind.wrap_u32];omega
 have p1:=put_byte (b:=b) (o:=1) (UInt8.ofNat ds.length)
 obtain ⟨b1,hb1⟩:∃ b1,b1=spl b 1 [UInt8.ofNat ds.length]:=⟨_,rfl⟩
 have l1:b1.length=504:=by rw [hb1,spl_len (by simp only [List.length_singleton];omega)];exact hb
 have x1:b1[1]? = some (UInt8.ofNat ds.length):=by rw [hb1];exact get_same (by omega)
 rw [<-hb1] at p1
 have c2:=mput32_ok (σ:=σ.set X (some (.obj (bytesAV b1)))) (B:=X) (o:=4) (n:=504-4) (c:=c-4) (v:=up) (ASt.set_same _ _ _) (by omega) (by omega) huu
 obtain ⟨b2,hb2⟩:∃ b2,b2=spl b1 4 (le32 up):=⟨_,rfl⟩
 have l2:b2.length=504:=by rw [hb2,spl_len (by rw [le32_len];omega)];exact l1
 have y1:b2[1]? = some (UInt8.ofNat ds.length):=by rw [hb2,get_else (by rw [le32_len];omega) (by omega)];exact x1
 have y4:bat b2 4 4=le32 up:=by rw [hb2];exact bat_same (by rw [le32_len];omega)
 rw [<-hb2,ASt.set_set] at c2
 have p3:=put_byte (b:=b2) (o:=0) 2
 obtain ⟨b3,hb3⟩:∃ b3,b3=spl b2 0 [2]:=⟨_,rfl⟩
 have l3:b3.length=504:=by rw [hb3,spl_len (by simp only [List.length_singleton];omega)];exact l2
 have z1:b3[1]? = some (UInt8.ofNat ds.length):=by rw [hb3,get_else (by simp only [List.length_singleton];omega) (by simp)];exact y1
 have z0:b3[0]? = some 2:=by rw [hb3];exact get_same (by omega)
 have z4:bat b3 4 4=le32 up:=by rw [hb3,bat_else (by simp only [List.length_singleton];omega) (by simp)];exact y4
 rw [<-hb3] at p3
 clear hb1 hb2 hb3
 have hs4:slV (false,1) (.msl X 0 504 c) 4 504=some (.msl X 4 (504-4) (c-4)):=slV_page (o:=4) (by omega) hc
 have hB0:1+1<=(bytesAV b).length:=by rw [kbytes_len];omega
 have hB2:0+1<=(bytesAV b2).length:=by rw [kbytes_len];omega
 generalize hM0:bytesAV b=M0 at *
 generalize hM2:bytesAV b2=M2 at *
 have e1u:((2:UInt8).toNat:Int)=2:=rfl
 rw [e1u] at p3
 have i1:(1:Int).toNat=1:=rfl
 have i0:(0:Int).toNat=0:=rfl
 rw [List.take_zero,List.nil_append] at p3
 have hszz:(SN.inner up ds cs).size=ds.length:=rfl
 rw [hszz] at hsz
 generalize hL:ds.length=L at *
 refine a35 (by simp) ?_
 simp (disch:=first|assumption|omega|(simp only [List.length_append,List.length_cons,List.length_nil];omega)) only [go_sem]
 refine hsz.mono ?_
 rintro r0 σ0 ⟨rfl,rfl⟩
 simp (disch:=first|assumption|omega|(simp only [List.length_append,List.length_cons,List.length_nil];omega)) only [go_sem,hn,hkl,w1,hX,hB0,p1,i0,i1,hs4,w2,hnX,Nat.zero_add]
 refine c2.mono ?_
 rintro r0 σ1 ⟨rfl,rfl⟩
 simp (disch:=first|assumption|omega|(simp only [List.length_append,List.length_cons,List.length_nil];omega)) only [go_sem,hn,hkl,hnX,hB2,p3,i0,i1,Nat.zero_add]
 obtain ⟨J,hJ⟩:∃ J:Nat->AFr->ASt->Prop,J=fun i a1 s2=>i<=L/\(a1 0 = .msl X 0 504 c/\a1 1 = .ptr n 0/\a1 50 = .sl k2 KS/\a1 51 = .int .i64 L/\a1 52 = .int .i64 i)/\∃ b',b'.length=504/\b'[0]? = some 2/\b'[1]? = some (UInt8.ofNat L)/\bat b' 4 4=le32 up ∧
   (∀ (j x:Nat),j<i->ds[j]? = some x->bat b' (8+8*j) 4=le32 x)/\(∀ (j x:Nat),j<i->cs[j]? = some x->bat b' (12+8*j) 4=le32 x)/\s2=σ0.set X (some (.obj (bytesAV b'))):=⟨_,rfl⟩
 refine wp_loop_on J (fun i=>L-i) 0 ?_ ?_
 ·rw [hJ]
  refine ⟨Nat.zero_le _,?_,b3,l3,z0,z1,z4,fun j k hj=>absurd hj (Nat.not_lt_zero _),fun j k hj=>absurd hj (Nat.not_lt_zero _),rfl⟩
  simp (disch:=first|assumption|omega|(simp only [List.length_append,List.length_cons,List.length_nil];omega)) only [go_sem]
 intro i a1 s2 hj
 rw [hJ] at hj
 obtain ⟨hi,hf,b',hb',h0,h1,h4,hk,hkc,rfl⟩:=hj
 by_cases hlt:i<L
 ·have hlt':(i:Int)<(L:Int):=by omega
  obtain ⟨k,hk1⟩:∃ k,ds[i]? = some k:=⟨_,List.getElem?_eq_getElem (by omega)⟩
  obtain ⟨w,hw1⟩:∃ k,cs[i]? = some k:=⟨_,List.getElem?_eq_getElem (by omega)⟩
  have hg1:=hkg i k hk1
  have hg2:=hcg i w hw1
  have hcll:(i:Int)<(cs.length:Int):=by omega
  have hs1:slV (false,1) (.msl X 0 504 c) (8+8*(i:Int)) 504=some (.msl X (8+8*i) (504-(8+8*i)) (c-(8+8*i))):=slV_page (o:=8+8*i) (by omega) hc
  have hs2:slV (false,1) (.msl X 0 504 c) (12+8*(i:Int)) 504=some (.msl X (12+8*i) (504-(12+8*i)) (c-(12+8*i))):=slV_page (o:=12+8*i) (by omega) hc
  have ku:=hdu k (List.mem_of_getElem? hk1)
  have cu:=hcu w (List.mem_of_getElem? hw1)
  have c1:=mput32_ok (σ:=σ0.set X (some (.obj (bytesAV b')))) (B:=X) (o:=8+8*i) (n:=504-(8+8*i)) (c:=c-(8+8*i)) (v:=k) (ASt.set_same _ _ _) (by omega) (by omega) ku
  obtain ⟨b4,hb4⟩:∃ b4,b4=spl b' (8+8*i) (le32 k):=⟨_,rfl⟩
  have l4:b4.length=504:=by rw [hb4,spl_len (by rw [le32_len];omega)];exact hb'
  rw [<-hb4,ASt.set_set] at c1
  have c3:=mput32_ok (σ:=σ0.set X (some (.obj (bytesAV b4)))) (B:=X) (o:=12+8*i) (n:=504-(12+8*i)) (c:=c-(12+8*i)) (v:=w) (ASt.set_same _ _ _) (by omega) (by omega) cu
  obtain ⟨b5,hb5⟩:∃ b5,b5=spl b4 (12+8*i) (le32 w):=⟨_,rfl⟩
  have l5:b5.length=504:=by rw [hb5,spl_len (by rw [le32_len];omega)];exact l4
  rw [<-hb5,ASt.set_set] at c3
  have f4:∀ o n,o+n<=8+8*i\/8+8*i+4<=o->bat b4 o n=bat b' o n:=fun o n h=>by rw [hb4];exact bat_else (by rw [le32_len];omega) h
  have f5:∀ o n,o+n<=12+8*i\/12+8*i+4<=o->bat b5 o n=bat b4 o n:=fun o n h=>by rw [hb5];exact bat_else (by rw [le32_len];omega) h
  have q4:bat b4 (8+8*i) 4=le32 k:=by rw [hb4];exact bat_same (by rw [le32_len];omega)
  have q5:bat b5 (12+8*i) 4=le32 w:=by rw [hb5];exact bat_same (by rw [le32_len];omega)
  have y0:b5[0]? = some 2:=by rw [hb5,get_else (by rw [le32_len];omega) (by omega),hb4,get_else (by rw [le32_len];omega) (by omega)];exact h0
  have y1:b5[1]? = some (UInt8.ofNat L):=by rw [hb5,get_else (by rw [le32_len];omega) (by omega),hb4,get_else (by rw [le32_len];omega) (by omega)];exact h1
  clear hb4 hb5
  have du':(k:Int)<=4294967295:=by omega
  have du2:(w:Int)<=4294967295:=by omega
  simp (disch:=first|assumption|omega|(simp only [List.length_append,List.length_cons,List.length_nil];omega)) only [go_sem,hf,hlt',hg1,hs1,Int.toNat_natCast]
  refine c1.mono ?_
  rintro r σ1 ⟨rfl,rfl⟩
  simp (disch:=first|assumption|omega|(simp only [List.length_append,List.length_cons,List.length_nil];omega)) only [go_sem,hf,hn,hnX,hcl,hcll,hg2,hs2,Int.toNat_natCast]
  refine c3.mono ?_
  rintro r σ1 ⟨rfl,rfl⟩
  simp (disch:=first|assumption|omega|(simp only [List.length_append,List.length_cons,List.length_nil];omega)) only [go_sem,hf]
  refine ⟨i+1,by omega,?_⟩
  rw [hJ]
  refine ⟨by omega,?_,b5,l5,y0,y1,by rw [f5 _ _ (by omega),f4 _ _ (by omega)];exact h4,fun j k' hj hk'=>?_,fun j k' hj hk'=>?_,rfl⟩
  ·simp (disch:=first|assumption|omega|(simp only [List.length_append,List.length_cons,List.length_nil];omega)) only [go_sem,hf]
  ·by_cases hji:j=i
   ·subst hji
    rw [hk1] at hk'
    rw [<-Option.some.inj hk',f5 _ _ (by omega)]
    exact q4
   ·rw [f5 _ _ (by omega),f4 _ _ (by omega)]
    exact hk j k' (by omega) hk'
  ·by_cases hji:j=i
   ·subst hji
    rw [hw1] at hk'
    rw [<-Option.some.inj hk']
    exact q5
   ·rw [f5 _ _ (by omega),f4 _ _ (by omega)]
    exact hkc j k' (by omega) hk'
 ·have hlt':¬ (i:Int)<(L:Int):=by omega
  obtain rfl:i=L:=by omega
  have hfin:SInner b' up ds cs:=⟨hb',h0,by rw [hL];exact h1,h4,by rw [hL];exact hcs,by rw [hL];exact hm,huu,hdu,hcu,fun j k hk'=>hk j k (by have:=(List.getElem?_eq_some_iff.1 hk').1;omega) hk',fun j k hk'=>hkc j k (by have:=(List.getElem?_eq_some_iff.1 hk').1;omega) hk'⟩
  simp (disch:=first|assumption|omega|(simp only [List.length_append,List.length_cons,List.length_nil];omega)) only [go_sem,hf,hlt']
  exact retC_by (.refl _) (.refl _) ⟨rfl,b',hfin,rfl⟩
end
end Go.A
namespace Go.A
open Go.Proofs
/-! 115: tabular/seq.decode -/
def c115_24:ACode := .seq (.ops [ oq 39 (.bin .lss (.t 38) (.t 37))]) (.seq (.cond (.t 39) .skip (.exit 0)) (.seq (.block 1 (.seq (.ops [ oq 40 (.mv (.t 38)),oq 6 (.mv (.t 40))]) (.seq (.ops [ oq 41 (.mv (.t 5)),oq 42 (.nc (.t 41)),oq 43 (.fa 0 (.t 42)),oq 44 (.ld none (.t 43))]) (.cond (.t 44) (.ops [ oq 45 (.mv (.t 5)),oq 46 (.mv (.t 5)),oq 47 (.nc (.t 46)),oq 48 (.fa 2 (.t 47)),oq 49 (.ld none (.t 48)),oq 50 (.mv (.t 0)),oq 51 (.mv (.t 6)),oq 52 (.bin .mul (.v (.int .i64 8)) (.t 51)),oq 53 (.bin .add (.v (.int .i64 8)) (.t 52)),oq 54 (.slfrom (false,1) (.t 50) (.t 53)),⟨some 55,none,.e (.call 146 [(.t 54)]),[⟨none,.ld none (.t 48),49⟩]⟩,oq 56 (.bslv 1 [(.t 55)]),oe 57 (.app 41 1 8 [(.int .u64 0)] (.t 49) (.t 56)),oq 58 (.nc (.t 45)),oq 59 (.fa 2 (.t 58)),oz (.store 1 (.t 59) (.t 57))]) (.seq (.ops [ oq 60 (.mv (.t 5)),oq 61 (.mv (.t 5)),oq 62 (.nc (.t 61)),oq 63 (.fa 3 (.t 62)),oq 64 (.ld none (.t 63)),oq 65 (.mv (.t 0)),oq 66 (.mv (.t 6)),oq 67 (.bin .mul (.v (.int .i64 8)) (.t 66)),oq 68 (.bin .add (.v (.int .i64 8)) (.t 67)),oq 69 (.slfrom (false,1) (.t 65) (.t 68)),⟨some 70,none,.e (.call 147 [(.t 69)]),[⟨none,.ld none (.t 63),64⟩]⟩,oq 71 (.conv .i64 (.t 70)),oq 72 (.bslv 1 [(.t 71)]),oe 73 (.app 3 1 8 [(.int .i64 0)] (.t 64) (.t 72)),oq 74 (.nc (.t 60)),oq 75 (.fa 3 (.t 74)),oz (.store 1 (.t 75) (.t 73))]) (.ops [ oq 76 (.mv (.t 5)),oq 77 (.mv (.t 5)),oq 78 (.nc (.t 77)),oq 79 (.fa 4 (.t 78)),oq 80 (.ld none (.t 79)),oq 81 (.mv (.t 0)),oq 82 (.mv (.t 6)),oq 83 (.bin .mul (.v (.int .i64 8)) (.t 82)),oq 84 (.bin .add (.v (.int .i64 12)) (.t 83)),oq 85 (.slfrom (false,1) (.t 81) (.t 84)),⟨some 86,none,.e (.call 147 [(.t 85)]),[⟨none,.ld none (.t 79),80⟩]⟩,oq 87 (.conv .i64 (.t 86)),oq 88 (.bslv 1 [(.t 87)]),oe 89 (.app 3 1 8 [(.int .i64 0)] (.t 80) (.t 88)),oq 90 (.nc (.t 76)),oq 91 (.fa 4 (.t 90)),oz (.store 1 (.t 91) (.t 89))])))))) (.ops [ oq 92 (.bin .add (.t 38) (.v (.int .i64 1))),oq 38 (.mv (.t 92))])))
def c115_34:ACode := .seq (.ops [ oq 2 (.mv (.v .nilp)),oq 3 (.mv (.v (.int .i64 0)))]) (.seq (.ops [ oq 7 (.mv (.t 0)),oq 8 (.ia 1 (.t 7) (.v (.int .i64 1))),oq 9 (.ld none (.t 8)),oq 10 (.conv .i64 (.t 9)),oq 4 (.mv (.t 10))]) (.seq (.ops [ oq 11 (.mv (.t 0)),oq 12 (.ia 1 (.t 11) (.v (.int .i64 0))),oq 13 (.ld none (.t 12)),oq 14 (.bin .eql (.t 13) (.v (.int .u8 1))),oq 15 (.mv (.t 0)),oq 16 (.slfrom (false,1) (.t 15) (.v (.int .i64 4))),⟨some 17,none,.e (.call 147 [(.t 16)]),[⟨none,.ld none (.t 12),13⟩]⟩,oq 18 (.conv .i64 (.t 17)),oq 19 (.build [(.bool false),(.int .i64 0),(.sl .full []),(.sl .full []),(.sl .full [])] [(0,1,(.t 14)),(1,1,(.t 18))]),oe 20 (.box (.t 19)),oq 5 (.mv (.t 20))]) (.seq (.seq (.ops [ oq 21 (.mv (.t 0)),oq 22 (.ia 1 (.t 21) (.v (.int .i64 0))),oq 23 (.ld none (.t 22)),oq 24 (.bin .lss (.t 23) (.v (.int .u8 1))),oq 25 (.mv (.t 24)),⟨some 26,some (25,false),.q (.mv (.t 0)),[]⟩,⟨some 27,some (25,false),.q (.ia 1 (.t 26) (.v (.int .i64 0))),[]⟩,⟨some 28,some (25,false),.q (.ld none (.t 27)),[]⟩,⟨some 29,some (25,false),.q (.bin .gtr (.t 28) (.v (.int .u8 2))),[]⟩,oq 30 (.pick (.t 25) (.v (.bool true)) (.t 29)),oq 31 (.mv (.t 30)),⟨some 32,some (31,false),.q (.mv (.t 4)),[]⟩,⟨some 33,some (31,false),.q (.mv (.t 5)),[]⟩,⟨some 34,some (31,false),.e (.call 118 [(.t 33)]),[]⟩,⟨some 35,some (31,false),.q (.bin .gtr (.t 32) (.t 34)),[]⟩,oq 36 (.pick (.t 31) (.v (.bool true)) (.t 35))]) (.cond (.t 36) (.seq (.ops [ oq 2 (.mv (.v .nilp)),oq 3 (.mv (.v (.int .i64 3)))]) .ret) .skip)) (.seq (.seq (.ops [ oq 37 (.mv (.t 4)),oq 38 (.mv (.v (.int .i64 0)))]) (.block 0 (.loop c115_24))) (.seq (.ops [ oq 93 (.mv (.t 5)),oq 2 (.mv (.t 93)),oq 3 (.mv (.v (.int .i64 0)))]) .ret)))))
@[go_sem] def c115_24_wp:=wp_of c115_24.eq_1
@[go_sem] def c115_34_wp:=wp_of c115_34.eq_1
def c115:AFn:=⟨94,[.t 2,.t 3],c115_34⟩
theorem c115_ok:compF Tryz.prog Tryz.f115=some c115:=by kernel_rfl
theorem a115 {args:List AV} {σ:ASt} {R:AV->ASt->Prop} (hl:args.length<=94) (h:c115_34.wp Tryz.prog (RetQ [.t 2,.t 3] R) (init args) σ):ACalls Tryz.prog 115 args σ R:=acalls_of Tryz.func115 c115_ok hl h
end Go.A
namespace Go.A
open Go.Proofs
structure LeafS (σ0 σ:ASt) (n:Nat) (x:AV) (up:Nat) (ids:List Nat):Prop where
 kept:Kept σ0 σ
 new:σ0 n=none
 hn:σ n=some (.obj [.bool true,.int .i64 up,x,.sl .full [],.sl .full []])
 hx:OwnR σ0 σ .u64 x ids
 nx:blkV x≠some n
structure InnerS (σ0 σ:ASt) (n:Nat) (y z:AV) (up:Nat) (ds cs:List Nat):Prop where
 kept:Kept σ0 σ
 new:σ0 n=none
 hn:σ n=some (.obj [.bool false,.int .i64 up,.sl .full [],y,z])
 hy:OwnR σ0 σ .i64 y ds
 hz:OwnR σ0 σ .i64 z cs
 ny:blkV y≠some n
 nz:blkV z≠some n
 yz:∀ x,blkV y=some x->blkV z≠some x
section
variable {σ:ASt} {X n c up:Nat} {b:List UInt8} {ids ds cs:List Nat} {r:Role} {nd:SN}
set_option maxHeartbeats 2000000 in
theorem sqdec_leaf (hX:σ X=some (.obj (bytesAV b))) (hc:504<=c) (ht:SLeaf b up ids) :
  ACalls Tryz.prog 115 [.msl X 0 504 c] σ fun r σ'=>∃ n x,r = .tuple [.ptr n 0,.int .i64 0]/\LeafS σ σ' n x up ids:=by
 obtain ⟨hb,h0,h1,hub,hm,huu,hiu,hi⟩:=ht
 have g0:(bytesAV b)[0]? = some (.int .u8 1):=by rw [bytesAV_get,h0];rfl
 have g1:(bytesAV b)[1]? = some (.int .u8 (ids.length:Int)):=by rw [bytesAV_get,h1];show some (AV.int .u8 ((UInt8.ofNat ids.length).toNat:Int))=_;rw [byte_small (by omega)]
 have hXb:=hX
 have hs4:slV (false,1) (.msl X 0 504 c) 4 504=some (.msl X 4 (504-4) (c-4)):=slV_page (o:=4) (by omega) hc
 have cu:=mu32_ok (c:=c-4) (n:=504-4) (o:=4) hXb hub (by omega) huu
 generalize hM:bytesAV b=M at hX g0 g1
 generalize hL:ids.length=L at *
 have hL':¬ (48:Int)<(L:Int):=by omega
 have w2:IntKind.wrap .i64 (up:Int)=(up:Int):=by rw [IntKind.wrap_i64];omega
 have z0:(0:Int).toNat=0:=rfl
 have z1:(1:Int).toNat=1:=rfl
 refine a115 (by simp) ?_
 simp (disch:=first|assumption|omega|(simp only [List.length_append,List.length_cons,List.length_nil];omega)) only [go_sem,hX,g0,g1,z0,z1,hs4,Nat.zero_add]
 refine cu.mono ?_
 rintro r0 σ0 ⟨rfl,rfl⟩
 simp (disch:=first|assumption|omega|(simp only [List.length_append,List.length_cons,List.length_nil];omega)) only [go_sem,hX,g0,w2]
 refine boxC_by rfl fun n hn=>?_
 have hXn:X≠n:=fun e=>by rw [e,hn] at hX;cases hX
 have hX2:=(ASt.set_ne (σ:=σ0) (r:=some (.obj [.bool true,.int .i64 up,.sl .full [],.sl .full [],.sl .full []])) hXn).trans hX
 have hmo:=sqmost_ok (ASt.set_same σ0 n (some (.obj [.bool true,.int .i64 up,.sl .full [],.sl .full [],.sl .full []])))
 simp (disch:=first|assumption|omega|(simp only [List.length_append,List.length_cons,List.length_nil];omega)) only [go_sem,hX2,g0,z0,w2,Nat.zero_add]
 refine hmo.mono ?_
 rintro r0 σ1 ⟨rfl,rfl⟩
 simp (disch:=first|assumption|omega|(simp only [List.length_append,List.length_cons,List.length_nil];omega)) only [go_sem,hL']
 obtain ⟨J,hJ⟩:∃ J:Nat->AFr->ASt->Prop,J=fun i a1 s2=>i<=L/\(a1 0 = .msl X 0 504 c/\a1 5 = .ptr n 0/\a1 37 = .int .i64 L/\a1 38 = .int .i64 i)/\∃ x,LeafS σ0 s2 n x up (ids.take i):=⟨_,rfl⟩
 refine wp_loop_on J (fun i=>L-i) 0 ?_ ?_
 ·rw [hJ]
  refine ⟨Nat.zero_le _,?_,.sl .full [],⟨(Kept.refl σ0).set hn,hn,ASt.set_same _ _ _,OwnR.nil _ _ _,(by intro h;cases h)⟩⟩
  simp (disch:=first|assumption|omega|(simp only [List.length_append,List.length_cons,List.length_nil];omega)) only [go_sem]
 intro i a1 s2 hj
 rw [hJ] at hj
 obtain ⟨hi',hf,x,hm2⟩:=hj
 have hs2n:=hm2.hn
 have hs2X:=hm2.kept _ _ hXb
 by_cases hlt:i<L
 ·have hlt':(i:Int)<(L:Int):=by omega
  obtain ⟨k,hk1⟩:∃ k,ids[i]? = some k:=⟨_,List.getElem?_eq_getElem (by omega)⟩
  have hs1:slV (false,1) (.msl X 0 504 c) (8+8*(i:Int)) 504=some (.msl X (8+8*i) (504-(8+8*i)) (c-(8+8*i))):=slV_page (o:=8+8*i) (by omega) hc
  have ku:=hiu k (List.mem_of_getElem? hk1)
  have c1:=mu64_ok (c:=c-(8+8*i)) (n:=504-(8+8*i)) hs2X (hi i k hk1) (by omega) (by omega) ku
  have tk:=take_snoc hk1
  have hlk:(ids.take i).length<=10000:=by rw [List.length_take];omega
  obtain ⟨xc0,xl0,xa0⟩:=hm2.hx.cell
  simp (disch:=first|assumption|omega|(simp only [List.length_append,List.length_cons,List.length_nil];omega)) only [go_sem,hf,hlt',hs2n,hs1]
  refine c1.mono ?_
  rintro r s3 ⟨rfl,rfl⟩
  simp (disch:=first|assumption|omega|(simp only [List.length_append,List.length_cons,List.length_nil];omega)) only [go_sem,hs2n]
  refine hm2.hx.app (fun z hz=>hm2.kept.gone hz) (by omega) fun x' X1 r hx1 hor hown=>?_
  have hX1σ:σ0 X1=none:=by
   rcases hor with h|h
   ·exact (hm2.hx.blk h).2
   ·exact hm2.kept.gone h
  have hX1n:n≠X1:=by
   rcases hor with h|h
   ·exact fun e=>hm2.nx (by rw [e];exact h)
   ·exact fun e=>by rw [<-e,hs2n] at h;cases h
  rw [tk] at hown
  have m3:LeafS σ0 ((s3.set X1 (some r)).set n (some (.obj [.bool true,.int .i64 up,x',.sl .full [],.sl .full []]))) n x' up (ids.take (i+1)):=
   ⟨(hm2.kept.set hX1σ).set hm2.new,hm2.new,ASt.set_same _ _ _,hown.set (by rw [hx1];intro h;exact hX1n (Option.some.inj h).symm),by rw [hx1];intro h;exact hX1n (Option.some.inj h).symm⟩
  obtain ⟨xc,xl,xa⟩:=hown.cell
  simp (disch:=first|assumption|omega|(simp only [List.length_append,List.length_cons,List.length_nil];omega)) only [go_sem,hf,hs2n,xc,xl]
  refine ⟨i+1,by omega,?_⟩
  rw [hJ]
  refine ⟨by omega,?_,x',m3⟩
  simp (disch:=first|assumption|omega|(simp only [List.length_append,List.length_cons,List.length_nil];omega)) only [go_sem,hf]
 ·have hlt':¬ (i:Int)<(L:Int):=by omega
  obtain rfl:i=L:=by omega
  rw [List.take_of_length_le (by omega)] at hm2
  simp (disch:=first|assumption|omega|(simp only [List.length_append,List.length_cons,List.length_nil];omega)) only [go_sem,hf,hlt']
  exact retC_by (.refl _) (.refl _) ⟨n,x,rfl,hm2⟩
set_option maxHeartbeats 2000000 in
theorem sqdec_inner (hX:σ X=some (.obj (bytesAV b))) (hc:504<=c) (ht:SInner b up ds cs) :
  ACalls Tryz.prog 115 [.msl X 0 504 c] σ fun r σ'=>∃ n y z,r = .tuple [.ptr n 0,.int .i64 0]/\InnerS σ σ' n y z up ds cs:=by
 obtain ⟨hb,h0,h1,hub,hn0,hm,huu,hdu,hcu,hd,hcs⟩:=ht
 have g0:(bytesAV b)[0]? = some (.int .u8 2):=by rw [bytesAV_get,h0];rfl
 have g1:(bytesAV b)[1]? = some (.int .u8 (ds.length:Int)):=by rw [bytesAV_get,h1];show some (AV.int .u8 ((UInt8.ofNat ds.length).toNat:Int))=_;rw [byte_small (by omega)]
 have hXb:=hX
 have hs4:slV (false,1) (.msl X 0 504 c) 4 504=some (.msl X 4 (504-4) (c-4)):=slV_page (o:=4) (by omega) hc
 have cu:=mu32_ok (c:=c-4) (n:=504-4) (o:=4) hXb hub (by omega) huu
 generalize hM:bytesAV b=M at hX g0 g1
 generalize hL:ds.length=L at *
 have hL':¬ (40:Int)<(L:Int):=by omega
 have w2:IntKind.wrap .i64 (up:Int)=(up:Int):=by rw [IntKind.wrap_i64];omega
 have z0:(0:Int).toNat=0:=rfl
 have z1:(1:Int).toNat=1:=rfl
 refine a115 (by simp) ?_
 simp (disch:=first|assumption|omega|(simp only [List.length_append,List.length_cons,List.length_nil];omega)) only [go_sem,hX,g0,g1,z0,z1,hs4,Nat.zero_add]
 refine cu.mono ?_
 rintro r0 σ0 ⟨rfl,rfl⟩
 simp (disch:=first|assumption|omega|(simp only [List.length_append,List.length_cons,List.length_nil];omega)) only [go_sem,hX,g0,w2]
 refine boxC_by rfl fun n hn=>?_
 have hXn:X≠n:=fun e=>by rw [e,hn] at hX;cases hX
 have hX2:=(ASt.set_ne (σ:=σ0) (r:=some (.obj [.bool false,.int .i64 up,.sl .full [],.sl .full [],.sl .full []])) hXn).trans hX
 have hmo:=sqmost_ok (ASt.set_same σ0 n (some (.obj [.bool false,.int .i64 up,.sl .full [],.sl .full [],.sl .full []])))
 simp (disch:=first|assumption|omega|(simp only [List.length_append,List.length_cons,List.length_nil];omega)) only [go_sem,hX2,g0,z0,w2,Nat.zero_add]
 refine hmo.mono ?_
 rintro r0 σ1 ⟨rfl,rfl⟩
 simp (disch:=first|assumption|omega|(simp only [List.length_append,List.length_cons,List.length_nil];omega)) only [go_sem,hL']
 obtain ⟨J,hJ⟩:∃ J:Nat->AFr->ASt->Prop,J=fun i a1 s2=>i<=L/\(a1 0 = .msl X 0 504 c/\a1 5 = .ptr n 0/\a1 37 = .int .i64 L/\a1 38 = .int .i64 i)/\∃ y z,InnerS σ0 s2 n y z up (ds.take i) (cs.take i):=⟨_,rfl⟩
 refine wp_loop_on J (fun i=>L-i) 0 ?_ ?_
 ·rw [hJ]
  refine ⟨Nat.zero_le _,?_,.sl .full [],.sl .full [],⟨(Kept.refl σ0).set hn,hn,ASt.set_same _ _ _,OwnR.nil _ _ _,OwnR.nil _ _ _,(by intro h;cases h),(by intro h;cases h),(by intro x h;cases h)⟩⟩
  simp (disch:=first|assumption|omega|(simp only [List.length_append,List.length_cons,List.length_nil];omega)) only [go_sem]
 intro i a1 s2 hj
 rw [hJ] at hj
 obtain ⟨hi',hf,y,z,hm2⟩:=hj
 have hs2n:=hm2.hn
 have hs2X:=hm2.kept _ _ hXb
 by_cases hlt:i<L
 ·have hlt':(i:Int)<(L:Int):=by omega
  obtain ⟨k,hk1⟩:∃ k,ds[i]? = some k:=⟨_,List.getElem?_eq_getElem (by omega)⟩
  obtain ⟨v,hv1⟩:∃ k,cs[i]? = some k:=⟨_,List.getElem?_eq_getElem (by omega)⟩
  have hs1:slV (false,1) (.msl X 0 504 c) (8+8*(i:Int)) 504=some (.msl X (8+8*i) (504-(8+8*i)) (c-(8+8*i))):=slV_page (o:=8+8*i) (by omega) hc
  have hs2:slV (false,1) (.msl X 0 504 c) (12+8*(i:Int)) 504=some (.msl X (12+8*i) (504-(12+8*i)) (c-(12+8*i))):=slV_page (o:=12+8*i) (by omega) hc
  have ku:=hdu k (List.mem_of_getElem? hk1)
  have vu:=hcu v (List.mem_of_getElem? hv1)
  have c1:=mu32_ok (c:=c-(8+8*i)) (n:=504-(8+8*i)) hs2X (hd i k hk1) (by omega) ku
  have tk:=take_snoc hk1
  have tv:=take_snoc hv1
  have hlk:(ds.take i).length<=10000:=by rw [List.length_take];omega
  have hlv:(cs.take i).length<=10000:=by rw [List.length_take];omega
  have wk:IntKind.wrap .i64 (k:Int)=(k:Int):=by rw [IntKind.wrap_i64];omega
  have wv:IntKind.wrap .i64 (v:Int)=(v:Int):=by rw [IntKind.wrap_i64];omega
  obtain ⟨yc0,yl0,ya0⟩:=hm2.hy.cell
  obtain ⟨zc0,zl0,za0⟩:=hm2.hz.cell
  simp (disch:=first|assumption|omega|(simp only [List.length_append,List.length_cons,List.length_nil];omega)) only [go_sem,hf,hlt',hs2n,hs1,yc0,zc0]
  refine c1.mono ?_
  rintro r s3 ⟨rfl,rfl⟩
  simp (disch:=first|assumption|omega|(simp only [List.length_append,List.length_cons,List.length_nil];omega)) only [go_sem,hs2n,wk]
  refine hm2.hy.app (fun z hz=>hm2.kept.gone hz) (by omega) fun y' X1 r hx1 hor hown=>?_
  have hX1σ:σ0 X1=none:=by
   rcases hor with h|h
   ·exact (hm2.hy.blk h).2
   ·exact hm2.kept.gone h
  have hX1n:n≠X1:=by
   rcases hor with h|h
   ·exact fun e=>hm2.ny (by rw [e];exact h)
   ·exact fun e=>by rw [<-e,hs2n] at h;cases h
  have hX1z:blkV z≠some X1:=by
   rcases hor with h|h
   ·exact hm2.yz _ h
   ·intro hy
    obtain ⟨⟨q,h2⟩,_⟩:=hm2.hz.blk hy
    rw [h] at h2;cases h2
  rw [tk] at hown
  have m3:InnerS σ0 ((s3.set X1 (some r)).set n (some (.obj [.bool false,.int .i64 up,.sl .full [],y',z]))) n y' z up (ds.take (i+1)) (cs.take i):=by
   refine ⟨(hm2.kept.set hX1σ).set hm2.new,hm2.new,ASt.set_same _ _ _,hown.set (by rw [hx1];intro h;exact hX1n (Option.some.inj h).symm),(hm2.hz.set hX1z).set hm2.nz,by rw [hx1];intro h;exact hX1n (Option.some.inj h).symm,hm2.nz,?_⟩
   intro w hw
   rw [hx1] at hw
   rw [<-Option.some.inj hw]
   exact hX1z
  have hn3:=m3.hn
  have hX3:=m3.kept _ _ hXb
  obtain ⟨yc,yl,ya⟩:=hown.cell
  simp (disch:=first|assumption|omega|(simp only [List.length_append,List.length_cons,List.length_nil];omega)) only [go_sem,hf,hs2n,yc,yl,zc0,hs2]
  generalize (s3.set X1 (some r)).set n (some (.obj [.bool false,.int .i64 up,.sl .full [],y',z]))=s4 at *
  have c2:=mu32_ok (c:=c-(12+8*i)) (n:=504-(12+8*i)) hX3 (hcs i v hv1) (by omega) vu
  refine c2.mono ?_
  rintro r2 s5 ⟨rfl,rfl⟩
  simp (disch:=first|assumption|omega|(simp only [List.length_append,List.length_cons,List.length_nil];omega)) only [go_sem,hn3,wv]
  refine m3.hz.app (fun z hz=>m3.kept.gone hz) (by omega) fun z' Y1 q hy1 hoy howny=>?_
  have hY1σ:σ0 Y1=none:=by
   rcases hoy with h|h
   ·exact (m3.hz.blk h).2
   ·exact m3.kept.gone h
  have hY1n:n≠Y1:=by
   rcases hoy with h|h
   ·exact fun e=>m3.nz (by rw [e];exact h)
   ·exact fun e=>by rw [<-e,hn3] at h;cases h
  have hY1x:blkV y'≠some Y1:=by
   rcases hoy with h|h
   ·intro hx
    exact m3.yz _ hx h
   ·intro hx
    obtain ⟨⟨q,h2⟩,_⟩:=m3.hy.blk hx
    rw [h] at h2;cases h2
  rw [tv] at howny
  have m5:InnerS σ0 ((s5.set Y1 (some q)).set n (some (.obj [.bool false,.int .i64 up,.sl .full [],y',z']))) n y' z' up (ds.take (i+1)) (cs.take (i+1)):=by
   refine ⟨(m3.kept.set hY1σ).set m3.new,m3.new,ASt.set_same _ _ _,(m3.hy.set hY1x).set m3.ny,howny.set (by rw [hy1];intro h;exact hY1n (Option.some.inj h).symm),m3.ny,by rw [hy1];intro h;exact hY1n (Option.some.inj h).symm,?_⟩
   intro w hw hw2
   rw [hy1] at hw2
   rw [<-Option.some.inj hw2] at hw
   exact hY1x hw
  obtain ⟨zc,zl,za⟩:=howny.cell
  simp (disch:=first|assumption|omega|(simp only [List.length_append,List.length_cons,List.length_nil];omega)) only [go_sem,hf,hn3,zc,zl]
  refine ⟨i+1,by omega,?_⟩
  rw [hJ]
  refine ⟨by omega,?_,y',z',m5⟩
  simp (disch:=first|assumption|omega|(simp only [List.length_append,List.length_cons,List.length_nil];omega)) only [go_sem,hf]
 ·have hlt':¬ (i:Int)<(L:Int):=by omega
  obtain rfl:i=L:=by omega
  rw [List.take_of_length_le (by omega),List.take_of_length_le (by omega)] at hm2
  simp (disch:=first|assumption|omega|(simp only [List.length_append,List.length_cons,List.length_nil];omega)) only [go_sem,hf,hlt']
  exact retC_by (.refl _) (.refl _) ⟨n,y,z,rfl,hm2⟩
end
end Go.A
namespace Go.A
open Go.Proofs
/-! 53: (*tabular/seq.Seq).load -/
def c53_12:ACode := .seq (.ops [ oq 4 (.mv (.v .nilp)),oq 5 (.mv (.v (.int .i64 0)))]) (.seq (.ops [ oq 9 (.mv (.t 0)),oq 10 (.nc (.t 9)),oq 11 (.fa 0 (.t 10)),oq 12 (.ld none (.t 11)),oq 13 (.mv (.t 1)),oe 14 (.call 72 [(.t 12),(.t 13)]),oq 8 (.mv (.t 14)),oq 15 (.ext 0 (.t 8)),oq 16 (.ext 1 (.t 8)),oq 6 (.mv (.t 15)),oq 7 (.mv (.t 16))]) (.seq (.seq (.ops [ oq 17 (.mv (.t 7)),oq 18 (.bin .neq (.t 17) (.v (.int .i64 0)))]) (.cond (.t 18) (.seq (.ops [ oq 19 (.mv (.t 7)),oq 4 (.mv (.v .nilp)),oq 5 (.mv (.t 19))]) .ret) .skip)) (.dfr 31 (.t 6) 20 (.seq (.ops [ oq 21 (.mv (.t 6)),oe 22 (.call 50 [(.t 21)]),oe 23 (.call 115 [(.t 22)]),oq 24 (.ext 0 (.t 23)),oq 25 (.ext 1 (.t 23)),oq 4 (.mv (.t 24)),oq 5 (.mv (.t 25))]) .ret))))
@[go_sem] def c53_12_wp:=wp_of c53_12.eq_1
def c53:AFn:=⟨26,[.t 4,.t 5],c53_12⟩
theorem c53_ok:compF Tryz.prog Tryz.f53=some c53:=by kernel_rfl
theorem a53 {args:List AV} {σ:ASt} {R:AV->ASt->Prop} (hl:args.length<=26) (h:c53_12.wp Tryz.prog (RetQ [.t 4,.t 5] R) (init args) σ):ACalls Tryz.prog 53 args σ R:=acalls_of Tryz.func53 c53_ok hl h
/-! 116: (*tabular/seq.Seq).store -/
def c116_14:ACode := .seq (.ops [ oq 6 (.mv (.v (.int .i64 0)))]) (.seq (.ops [ oq 10 (.mv (.t 0)),oq 11 (.nc (.t 10)),oq 12 (.fa 0 (.t 11)),oq 13 (.ld none (.t 12)),oq 14 (.mv (.t 1)),oe 15 (.call 72 [(.t 13),(.t 14)]),oq 9 (.mv (.t 15)),oq 16 (.ext 0 (.t 9)),oq 17 (.ext 1 (.t 9)),oq 7 (.mv (.t 16)),oq 8 (.mv (.t 17))]) (.seq (.seq (.ops [ oq 18 (.mv (.t 8)),oq 19 (.bin .neq (.t 18) (.v (.int .i64 0)))]) (.cond (.t 19) (.seq (.ops [ oq 20 (.mv (.t 8)),oq 6 (.mv (.t 20))]) .ret) .skip)) (.dfr 31 (.t 7) 21 (.seq (.ops [ oq 22 (.mv (.t 7)),oe 23 (.call 34 [(.t 22)]),oq 24 (.mv (.t 2)),oe 25 (.call 35 [(.t 23),(.t 24)])]) (.seq (.ops [ oq 6 (.mv (.v (.int .i64 0)))]) .ret)))))
@[go_sem] def c116_14_wp:=wp_of c116_14.eq_1
def c116:AFn:=⟨26,[.t 6],c116_14⟩
theorem c116_ok:compF Tryz.prog Tryz.f116=some c116:=by kernel_rfl
theorem a116 {args:List AV} {σ:ASt} {R:AV->ASt->Prop} (hl:args.length<=26) (h:c116_14.wp Tryz.prog (RetQ [.t 6] R) (init args) σ):ACalls Tryz.prog 116 args σ R:=acalls_of Tryz.func116 c116_ok hl h
end Go.A
namespace Go.A
open Go.Proofs
def SPg (b:List UInt8):SN->Prop
 | .leaf up ids=>SLeaf b up ids
 | .inner up ds cs=>SInner b up ds cs
def SN.ok:SN->Prop
 | .leaf up ids=>ids.length<=48/\up<4294967296/\u64L ids
 | .inner up ds cs=>cs.length=ds.length/\ds.length<=40/\up<4294967296/\u32L ds/\u32L cs
theorem SPg.len {b:List UInt8} {nd:SN} (h:SPg b nd):b.length=504:=by
 cases nd with
 | leaf=>exact SLeaf.len h
 | inner=>exact SInner.len h
theorem sqenc_ok {σ:ASt} {X n c:Nat} {b:List UInt8} {nd:SN} {r:Role} (hX:σ X=some (.obj (bytesAV b))) (hb:b.length=504) (hc:504<=c) (hn:σ n=some r) (hr:SNodeR r nd) (hnX:n≠X) (ho:nd.ok) :
  ACalls Tryz.prog 35 [.msl X 0 504 c,.ptr n 0] σ fun r σ'=>r = .tuple []/\∃ b',SPg b' nd/\σ'=σ.set X (some (.obj (bytesAV b'))):=by
 cases nd with
 | leaf up ids=>exact sqenc_leaf hX hb hc hn hr hnX ho.1 ho.2.1 ho.2.2
 | inner up ds cs=>exact sqenc_inner hX hb hc hn hr hnX ho.1 ho.2.1 ho.2.2.1 ho.2.2.2.1 ho.2.2.2.2
section
variable {base base' σ σ':ASt} {p k page fa xa c t root n s:Nat} {m:PX} {pg:Pgs} {dirty:Bool} {b:List UInt8} {nd:SN}
set_option maxHeartbeats 1000000 in
theorem sqload_leafM {up:Nat} {ids:List Nat} (h:PoolAt base σ p m k pg) (ht:base s=some (.obj [.ptr p 0,.int .i64 root,.ptr t 0])) (hq:pg page=some b) (hl:SLeaf b up ids) :
  ACalls Tryz.prog 53 [.ptr s 0,.int .i64 page] σ fun r σ'=>∃ n x base',r = .tuple [.ptr n 0,.int .i64 0]/\LeafS base base' n x up ids/\Only base base' (nodeB n x (.sl .full []))/\PoolAt base' σ' p m k pg:=by
 have hts:=h.at ht
 refine a53 (by simp) ?_
 simp (disch:=first|assumption|omega|(simp only [List.length_append,List.length_cons,List.length_nil];omega)) only [go_sem,hts]
 refine (plpin_ok h hq).mono ?_
 rintro v σ1 ⟨fa,xa,c,dirty,rfl,hxa,hck,hc,h1⟩
 have hX:=h1.at (ASt.set_same base xa (some (.obj (bytesAV b))))
 have hbt:=plbytes_ok h1
 have hdec:=sqdec_leaf hX hc hl
 simp (disch:=first|assumption|omega|(simp only [List.length_append,List.length_cons,List.length_nil];omega)) only [go_sem]
 refine hbt.mono ?_
 rintro v σ2 ⟨rfl,rfl⟩
 simp (disch:=first|assumption|omega|(simp only [List.length_append,List.length_cons,List.length_nil];omega)) only [go_sem]
 refine hdec.mono ?_
 rintro v σ3 ⟨n,x,rfl,hm⟩
 have hP:∀ z,nodeB n x (.sl .full []) z->σ2 z=none:=by
  rintro z (rfl|hz|hz)
  ·exact hm.new
  ·exact (hm.hx.blk hz).2
  ·cases hz
 have hPx:¬ nodeB n x (.sl .full []) xa:=fun hp=>by rw [hP _ hp] at hX;cases hX
 have h3:=h1.grow (P:=nodeB n x (.sl .full [])) hm.kept hP
 have hbx:addB (base.set xa (some (.obj (bytesAV b)))) σ3 (nodeB n x (.sl .full [])) xa=some (.obj (bytesAV b)):=by rw [addB_out hPx];exact ASt.set_same _ _ _
 have hun:=plunpin_d h3 hbx hl.len (.inr hq) hck
 rw [addB_drop hxa hPx,pset_id hq] at hun
 have hin:∀ z,nodeB n x (.sl .full []) z->base z=none:=fun z hz=>by
  cases hc2:base z with
  | none=>rfl
  | some r=>
    have:z≠xa:=fun e=>hPx (e▸hz)
    have:=h1.at ((ASt.set_ne (σ:=base) (r:=some (.obj (bytesAV b))) this).trans hc2)
    rw [hP z hz] at this;cases this
 have hm2:LeafS base (addB base σ3 (nodeB n x (.sl .full []))) n x up ids:=by
  refine ⟨fun z r hz=>?_,hin n (.inl rfl),by rw [addB_in (.inl rfl)];exact hm.hn,?_,hm.nx⟩
  ·rw [addB_out (fun hp=>by rw [hin z hp] at hz;cases hz)];exact hz
  ·rcases hm.hx with ⟨rfl,rfl⟩|⟨X,cc,R,rfl,q1,q2,q3⟩
   ·exact .inl ⟨rfl,rfl⟩
   ·exact .inr ⟨X,cc,R,rfl,by rw [addB_in (.inr (.inl rfl))];exact q1,hin X (.inr (.inl rfl)),q3⟩
 simp (disch:=first|assumption|omega|(simp only [List.length_append,List.length_cons,List.length_nil];omega)) only [go_sem]
 refine hun.mono ?_
 rintro v σ4 ⟨rfl,h4⟩
 exact retC_by (.refl _) (.refl _) ⟨n,x,_,rfl,hm2,fun z hz=>addB_out hz,h4⟩
set_option maxHeartbeats 1000000 in
theorem sqload_innerM {up:Nat} {ds cs:List Nat} (h:PoolAt base σ p m k pg) (ht:base s=some (.obj [.ptr p 0,.int .i64 root,.ptr t 0])) (hq:pg page=some b) (hl:SInner b up ds cs) :
  ACalls Tryz.prog 53 [.ptr s 0,.int .i64 page] σ fun r σ'=>∃ n y z base',r = .tuple [.ptr n 0,.int .i64 0]/\InnerS base base' n y z up ds cs/\Only base base' (nodeB n y z)/\PoolAt base' σ' p m k pg:=by
 have hts:=h.at ht
 refine a53 (by simp) ?_
 simp (disch:=first|assumption|omega|(simp only [List.length_append,List.length_cons,List.length_nil];omega)) only [go_sem,hts]
 refine (plpin_ok h hq).mono ?_
 rintro v σ1 ⟨fa,xa,c,dirty,rfl,hxa,hck,hc,h1⟩
 have hX:=h1.at (ASt.set_same base xa (some (.obj (bytesAV b))))
 have hbt:=plbytes_ok h1
 have hdec:=sqdec_inner hX hc hl
 simp (disch:=first|assumption|omega|(simp only [List.length_append,List.length_cons,List.length_nil];omega)) only [go_sem]
 refine hbt.mono ?_
 rintro v σ2 ⟨rfl,rfl⟩
 simp (disch:=first|assumption|omega|(simp only [List.length_append,List.length_cons,List.length_nil];omega)) only [go_sem]
 refine hdec.mono ?_
 rintro v σ3 ⟨n,y,z,rfl,hm⟩
 have hP:∀ q,nodeB n y z q->σ2 q=none:=by
  rintro q (rfl|hz|hz)
  ·exact hm.new
  ·exact (hm.hy.blk hz).2
  ·exact (hm.hz.blk hz).2
 have hPx:¬ nodeB n y z xa:=fun hp=>by rw [hP _ hp] at hX;cases hX
 have h3:=h1.grow (P:=nodeB n y z) hm.kept hP
 have hbx:addB (base.set xa (some (.obj (bytesAV b)))) σ3 (nodeB n y z) xa=some (.obj (bytesAV b)):=by rw [addB_out hPx];exact ASt.set_same _ _ _
 have hun:=plunpin_d h3 hbx hl.len (.inr hq) hck
 rw [addB_drop hxa hPx,pset_id hq] at hun
 have hin:∀ q,nodeB n y z q->base q=none:=fun q hz=>by
  cases hc2:base q with
  | none=>rfl
  | some r=>
    have:q≠xa:=fun e=>hPx (e▸hz)
    have:=h1.at ((ASt.set_ne (σ:=base) (r:=some (.obj (bytesAV b))) this).trans hc2)
    rw [hP q hz] at this;cases this
 have hm2:InnerS base (addB base σ3 (nodeB n y z)) n y z up ds cs:=by
  refine ⟨fun q r hz=>?_,hin n (.inl rfl),by rw [addB_in (.inl rfl)];exact hm.hn,?_,?_,hm.ny,hm.nz,hm.yz⟩
  ·rw [addB_out (fun hp=>by rw [hin q hp] at hz;cases hz)];exact hz
  ·rcases hm.hy with ⟨rfl,rfl⟩|⟨X,cc,R,rfl,q1,q2,q3⟩
   ·exact .inl ⟨rfl,rfl⟩
   ·exact .inr ⟨X,cc,R,rfl,by rw [addB_in (.inr (.inl rfl))];exact q1,hin X (.inr (.inl rfl)),q3⟩
  ·rcases hm.hz with ⟨rfl,rfl⟩|⟨X,cc,R,rfl,q1,q2,q3⟩
   ·exact .inl ⟨rfl,rfl⟩
   ·exact .inr ⟨X,cc,R,rfl,by rw [addB_in (.inr (.inr rfl))];exact q1,hin X (.inr (.inr rfl)),q3⟩
 simp (disch:=first|assumption|omega|(simp only [List.length_append,List.length_cons,List.length_nil];omega)) only [go_sem]
 refine hun.mono ?_
 rintro v σ4 ⟨rfl,h4⟩
 exact retC_by (.refl _) (.refl _) ⟨n,y,z,_,rfl,hm2,fun z hz=>addB_out hz,h4⟩
theorem LeafS.soft {x:AV} {up:Nat} {ids:List Nat} (h:LeafS base base' n x up ids) (hcb:CkT base) (hp:PoolAt base' σ p m k pg):∃ σ2 r,GDrop σ σ2/\SNodeR r (.leaf up ids)/\σ2 n=some r/\PoolAt (base.set n (some r)) σ2 p m k pg:=by
 obtain ⟨σ2,h1,h2,h3⟩:=node_soft (y := .sl .full []) (ky := .u64) (ly := []) (cs' := [.bool true,.int .i64 up,.sl (kkOf x) (kv .u64 ids),.sl .full [],.sl .full []]) h.kept h.new h.hn h.hx (OwnR.nil _ _ _) h.nx (by intro h;cases h) hcb hp fun σ2 f1 f2 => .cons (.refl _) (.cons (.refl _) (.cons f1 (.cons (.refl _) (.cons (.refl _) .nil))))
 exact ⟨σ2,_,h1,⟨_,rfl⟩,h2,h3⟩
theorem InnerS.soft {y z:AV} {up:Nat} {ds cs:List Nat} (h:InnerS base base' n y z up ds cs) (hcb:CkT base) (hp:PoolAt base' σ p m k pg):∃ σ2 r,GDrop σ σ2/\SNodeR r (.inner up ds cs)/\σ2 n=some r/\PoolAt (base.set n (some r)) σ2 p m k pg:=by
 obtain ⟨σ2,h1,h2,h3⟩:=node_soft (cs' := [.bool false,.int .i64 up,.sl .full [],.sl (kkOf y) (kv .i64 ds),.sl (kkOf z) (kv .i64 cs)]) h.kept h.new h.hn h.hy h.hz h.ny h.nz hcb hp fun σ2 f1 f2 => .cons (.refl _) (.cons (.refl _) (.cons (.refl _) (.cons f1 (.cons f2 .nil))))
 exact ⟨σ2,_,h1,⟨_,_,_,rfl⟩,h2,h3⟩
theorem sqload_ok (h:PoolAt base σ p m k pg) (ht:base s=some (.obj [.ptr p 0,.int .i64 root,.ptr t 0])) (hq:pg page=some b) (hl:SPg b nd) :
  ACalls Tryz.prog 53 [.ptr s 0,.int .i64 page] σ fun r σ'=>∃ n q,r = .tuple [.ptr n 0,.int .i64 0]/\base n=none/\SNodeR q nd/\PoolAt (base.set n (some q)) σ' p m k pg:=by
 cases nd with
 | leaf up ids=>
   refine (sqload_leafM h ht hq hl).post ?_
   rintro v σ1 ⟨n,x,base',rfl,hm,_,hp⟩
   obtain ⟨σ2,r,h1,h2,h3,h4⟩:=hm.soft h.ck hp
   exact ⟨_,σ2,h1.wkv (.refl _),n,r,rfl,hm.new,h2,h4⟩
 | inner up ds cs=>
   refine (sqload_innerM h ht hq hl).post ?_
   rintro v σ1 ⟨n,y,z,base',rfl,hm,_,hp⟩
   obtain ⟨σ2,r,h1,h2,h3,h4⟩:=hm.soft h.ck hp
   exact ⟨_,σ2,h1.wkv (.refl _),n,r,rfl,hm.new,h2,h4⟩
theorem sqload_i (h:PoolAt base σ p m k pg) (ht:base s=some (.obj [.ptr p 0,.int .i64 root,.ptr t 0])) (hq:pg page=some b) (hl:SPg b nd) :
  ACalls Tryz.prog 53 [.ptr s 0,.int .i64 page] σ fun r σ'=>∃ cs,r = .tuple [.imm cs,.int .i64 0]/\SNodeR (.obj cs) nd/\PoolAt base σ' p m k pg:=by
 refine (sqload_ok h ht hq hl).post ?_
 rintro v σ1 ⟨n,q,rfl,hn,hr,hp⟩
 obtain ⟨cs,rfl⟩:∃ cs,q = .obj cs:=by
  cases nd with
  | leaf=>obtain ⟨_,rfl⟩:=hr;exact ⟨_,rfl⟩
  | inner=>obtain ⟨_,_,_,rfl⟩:=hr;exact ⟨_,rfl⟩
 have hσ:=hp.at (ASt.set_same base n (some (.obj cs)))
 have hd:Drop σ1 (σ1.set n none):=fun z=>by
  by_cases hz:z=n
  ·rw [hz,ASt.set_same];exact .inr rfl
  ·rw [ASt.set_ne hz];exact .inl rfl
 have h2:=hp.set (x:=n) none (.inl (by rw [ASt.set_same];simp)) (ck_ne h.ck hn)
 rw [set_none_id hn] at h2
 exact ⟨_,_,WkV.fz hd (.tuple (.cons (.ptr 0 hσ (ASt.set_same _ _ _)) (.cons (.refl _) .nil))),cs,rfl,hr,h2⟩
set_option maxHeartbeats 1000000 in
theorem sqstore_ok {b0:List UInt8} (h:PoolAt base σ p m k pg) (ht:base s=some (.obj [.ptr p 0,.int .i64 root,.ptr t 0])) (hq:pg page=some b0) (hn:∃ r,base n=some r/\SNodeR r nd) (ho:nd.ok) :
  ACalls Tryz.prog 116 [.ptr s 0,.int .i64 page,.ptr n 0] σ fun r σ'=>r = .int .i64 0/\∃ b',SPg b' nd/\PoolAt base σ' p m k (pset pg page (some b')):=by
 have hts:=h.at ht
 have hb0:=h.slen hq
 obtain ⟨rn,hn1,hn2⟩:=hn
 refine a116 (by simp) ?_
 simp (disch:=first|assumption|omega|(simp only [List.length_append,List.length_cons,List.length_nil];omega)) only [go_sem,hts]
 refine (plpin_ok h hq).mono ?_
 rintro v σ1 ⟨fa,xa,c,dirty,rfl,hxa,hck,hc,h1⟩
 have hnx:n≠xa:=fun e=>by rw [e,hxa] at hn1;cases hn1
 simp (disch:=first|assumption|omega|(simp only [List.length_append,List.length_cons,List.length_nil];omega)) only [go_sem]
 refine (pledit_ok h1 (ASt.set_same _ _ _) hb0 (.inr hq)).mono ?_
 rintro v σ2 ⟨rfl,h2⟩
 have hX:=h2.at (ASt.set_same base xa (some (.obj (bytesAV b0))))
 have hN:=h2.at ((ASt.set_ne (σ:=base) (r:=some (.obj (bytesAV b0))) hnx).trans hn1)
 simp (disch:=first|assumption|omega|(simp only [List.length_append,List.length_cons,List.length_nil];omega)) only [go_sem]
 refine (sqenc_ok hX hb0 hc hN hn2 hnx ho).mono ?_
 rintro v σ3 ⟨rfl,b',hb',rfl⟩
 have h3:=h2.set (x:=xa) (some (.obj (bytesAV b'))) (.inl (by rw [ASt.set_same];simp)) hck
 rw [ASt.set_set] at h3
 have hun:=plunpin_d h3 (ASt.set_same _ _ _) hb'.len (.inl rfl) hck
 rw [set_none_id hxa] at hun
 simp (disch:=first|assumption|omega|(simp only [List.length_append,List.length_cons,List.length_nil];omega)) only [go_sem]
 refine hun.mono ?_
 rintro v σ4 ⟨rfl,h4⟩
 exact retC_by (.refl _) (.refl _) ⟨rfl,b',hb',h4⟩
end
end Go.A
namespace Go.A
open Go.Proofs
/-! 135: (*tabular/seq.Seq).fresh -/
/-! 152: (*tabular/seq.Seq).adopt -/
end Go.A
end
