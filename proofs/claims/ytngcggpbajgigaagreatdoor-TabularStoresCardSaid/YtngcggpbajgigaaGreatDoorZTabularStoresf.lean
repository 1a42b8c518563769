/- Part 6 of what TabularStores leans on: Na Nb Njw CodeNk Nk CodeNl Nl CodeNm Nm Nn Nd. -/
import Derived.Test.YtngcggpbajgigaaGreatDoorProg
import Derived.KernelRfl
import Derived.Test.YtngcggpbajgigaaGreatDoorZTabularStorese
set_option linter.defProp false
set_option linter.unusedSimpArgs false
set_option linter.unusedVariables false
set_option maxRecDepth 100000
section
attribute [local go_sem] reduceCtorEq Nat.reduceEqDiff Nat.reduceAdd Nat.reduceSub Nat.reduceMul Nat.reduceLeDiff Int.reduceLT Int.reduceLE Int.reduceEq Int.reduceNeg Int.reduceAdd Int.reduceSub Int.reduceMul true_imp_iff forall_const Nat.mul_one Int.reduceToNat Nat.reducePow Int.reducePow Bool.true_and Bool.false_and Bool.and_false
attribute [local go_sem ↓] reduceIte
namespace Go.A
open Go.Proofs
theorem wrap64_rng (n:Int) : -9223372036854775808<=IntKind.wrap .i64 n/\IntKind.wrap .i64 n<=9223372036854775807:=by
 have e:IntKind.wrap .i64 n=if 9223372036854775808<=n % 18446744073709551616 then n % 18446744073709551616-18446744073709551616 else n % 18446744073709551616:=by simp [IntKind.wrap,IntKind.bits,IntKind.signed]
 rw [e]
 split<;>omega
def upP (n:Int):Int:=IntKind.wrap .i64 (n+1)
theorem freeV_len (l:List Nat):(freeV l).length=l.length:=by unfold freeV;rw [List.length_map]
theorem freeV_app (l m:List Nat):freeV (l++m)=freeV l++freeV m:=by unfold freeV;rw [List.map_append]
section
variable {σ0 σ:ASt} {d B cB F I cI:Nat} {D:Dsk} {rB rI:List AV} {fv:AV}
theorem DM.growG (h:DM σ0 d D σ B cB rB fv F I cI rI) (hfew:D.free.length<=100000) {p:Nat} {K:AV->ASt->Prop} {e:TypeId} {kl:SK}
  (hK:∀ F' c' τ,τ d=some (.obj (D.cs B cB fv I cI))->DM σ0 d { D with free:=D.free ++ [p] } (τ.set d (some (.obj (D.cs B cB (.msl F' 0 (D.free.length+1) c') I cI)))) B cB rB (.msl F' 0 (D.free.length+1) c') F' I cI rI->K (.msl F' 0 (D.free.length+1) c') τ) :
  appC e 1 8 [.int .i64 0] fv (.sl kl [.int .i64 p]) σ K:=by
 have hfl : [AV.int .i64 (p:Int)].flatMap AV.cells = [AV.int .i64 (p:Int)]:=rfl
 have h1l : [AV.int .i64 (p:Int)].length=1:=rfl
 have hnl:(D.free ++ [p]).length=D.free.length+1:=by rw [List.length_append];rfl
 have hfp:freeV (D.free ++ [p])=freeV D.free ++ [.int .i64 p]:=freeV_app _ _
 have hmake:∀ (b c:Nat) (r:List AV),σ b=none->D.free.length+1<=c->r.length=c-(D.free.length+1)->K (.msl b 0 (D.free.length+1) c) (σ.set b (some (.obj (freeV (D.free ++ [p])++r)))):=fun b c r hb hc hr=>by
  obtain ⟨f1,f2,f3,f4,f5⟩:=h.low hb
  refine hK b c _ (by rw [ASt.set_ne (Ne.symm f1)];exact h.hd) ?_
  refine ⟨ASt.set_same _ _ _,?_,?_,h.cB,h.cI,.inr ⟨c,r,?_,?_,?_,?_,f1,f2,f3,f5⟩,h.n1,h.n2,h.n3,h.z1,h.z2,h.z3,?_⟩
  ·rw [ASt.set_ne (Ne.symm h.n1),ASt.set_ne (Ne.symm f2)];exact h.hB
  ·rw [ASt.set_ne (Ne.symm h.n2),ASt.set_ne (Ne.symm f3)];exact h.hI
  ·show _=AV.msl b 0 (D.free ++ [p]).length c;rw [hnl]
  ·rw [ASt.set_ne f1,ASt.set_same]
  ·show (D.free ++ [p]).length<=c;omega
  ·show r.length=c-(D.free ++ [p]).length;omega
  ·intro x h1 h2 h3 h4
   rw [ASt.set_ne h1,ASt.set_ne h4]
   by_cases hxF:x=F
   ·rw [hxF];exact .inr h.zF
   ·exact h.out x h1 h2 h3 hxF
 have hol:∀ (l:List AV) c,(ownRow 1 [AV.int .i64 0] l (D.free.length+1) c)=l++(ownRow 1 [AV.int .i64 0] [] (D.free.length+1) c):=fun l c=>by unfold ownRow;simp
 have hol2:∀ c,(ownRow 1 [AV.int .i64 0] ([]:List AV) (D.free.length+1) c).length=c-(D.free.length+1):=fun c=>by unfold ownRow;simp
 rcases h.hF with ⟨x1,x2,x3⟩|⟨cF,rF,x1,x2,x3,x4,x5,x6,x7,x8⟩
 ·rw [x2]
  refine appO_by rfl rfl rfl (by rw [h1l];decide) (by rw [h1l];decide) (by rw [h1l];decide) fun b c hb hc=>?_
  have hc:1<=c:=hc
  have hl0:D.free.length=0:=by rw [x1];rfl
  have hm:=hmake b c (ownRow 1 [AV.int .i64 0] [] (D.free.length+1) c) hb (by omega) (hol2 c)
  rw [<-hol,hfp,x1] at hm
  exact hm
 ·subst x1
  have hml:(freeV D.free++rF).length=cF:=by rw [List.length_append,freeV_len];omega
  rw [appC_msl,x2]
  refine appM_by rfl rfl (by rw [h1l];omega) (by rw [h1l];omega) (by omega) (fun hroom=>⟨by rw [h1l] at hroom ⊢;omega,?_⟩) (fun hgrow b' c' hb' hc'=>?_)
  ·rw [h1l] at hroom
   have e:splice (freeV D.free++rF) (0+D.free.length*1) ([AV.int .i64 (p:Int)].length*1) ([AV.int .i64 (p:Int)].flatMap AV.cells)=freeV (D.free ++ [p])++rF.drop 1:=by
    rw [hfl,h1l,Nat.zero_add,Nat.mul_one,Nat.mul_one,hfp]
    unfold splice
    have a1:(freeV D.free++rF).take D.free.length=freeV D.free:=by rw [<-freeV_len D.free,List.take_left]
    have a2:(freeV D.free++rF).drop (D.free.length+1)=rF.drop 1:=by rw [<-List.drop_drop,← freeV_len D.free,List.drop_left]
    rw [a1,a2]
   rw [e]
   refine hK F cF _ (by rw [ASt.set_ne (Ne.symm x5)];exact h.hd) ?_
   refine ⟨ASt.set_same _ _ _,?_,?_,h.cB,h.cI,.inr ⟨cF,rF.drop 1,?_,?_,?_,?_,x5,x6,x7,x8⟩,h.n1,h.n2,h.n3,h.z1,h.z2,h.z3,?_⟩
   ·rw [ASt.set_ne (Ne.symm h.n1),ASt.set_ne (Ne.symm x6)];exact h.hB
   ·rw [ASt.set_ne (Ne.symm h.n2),ASt.set_ne (Ne.symm x7)];exact h.hI
   ·show _=AV.msl F 0 (D.free ++ [p]).length cF;rw [hnl]
   ·rw [ASt.set_ne x5,ASt.set_same]
   ·show (D.free ++ [p]).length<=cF;omega
   ·show (rF.drop 1).length=cF-(D.free ++ [p]).length;rw [List.length_drop];omega
   ·intro x h1 h2 h3 h4
    rw [ASt.set_ne h1,ASt.set_ne h4]
    exact h.out x h1 h2 h3 h4
  ·rw [h1l] at hgrow hc'
   have e:ownRow 1 [AV.int .i64 0] (((freeV D.free++rF).drop 0).take (D.free.length*1) ++ [AV.int .i64 (p:Int)].flatMap AV.cells) (D.free.length + [AV.int .i64 (p:Int)].length) c'=freeV (D.free ++ [p])++ownRow 1 [AV.int .i64 0] [] (D.free.length+1) c':=by
    rw [hfl,h1l,List.drop_zero,Nat.mul_one,hol]
    congr 1
    rw [hfp]
    congr 1
    rw [<-freeV_len D.free,List.take_left]
   rw [e]
   exact hmake b' c' _ hb' (by omega) (hol2 c')
def gaveG (D:Dsk) (p:Nat):Dsk := { D with b:=layP D.b p (le32 (nxfP D D.free.length)),free:=D.free ++ [p],isF:=D.isF.set p true,pt:=upP D.pt }
def retookG (D:Dsk) (p:Nat) (l:List Nat):Dsk := { D with b:=layP D.b p [],free:=l,isF:=D.isF.set p false,pt:=upP D.pt }
set_option maxHeartbeats 1000000 in
theorem dkgive_g (h:DM σ0 d D σ B cB rB fv F I cI rI) (hck:CkT σ0) (ho:D.ok) (hwl:D.wl = -1) {p:Nat} (h1:1<=p) (hp:p<D.isF.length) (hx:D.isF[p]? = some false) :
  ACalls Tryz.prog 102 [.ptr d 0,.int .i64 p] σ fun v σ'=>v = .int .i64 0/\DiskAt σ0 d (gaveG D p) σ':=by
 have hwr:=wrap64_rng (D.pt+1)
 have hfew:=ho.few
 have hm:=ho.most
 have hh:=dkhas_ok h.lm ho.len (by omega) rfl h1 hp hx
 have hf:=dkfailW_ok h ho
 have hfd:failD D.wl=(-1,0):=by rw [hwl];rfl
 have hDw:({ D with wl := -1 }:Dsk)=D:=by rw [<-hwl]
 rw [hfd] at hf
 dsimp only at hf
 rw [hDw] at hf
 have hset:σ.set d (some (.obj (D.cs B cB fv I cI)))=σ:=by
  funext x
  by_cases hx:x=d
  ·rw [hx,ASt.set_same,h.hd]
  ·rw [ASt.set_ne hx]
 rw [hset] at hf
 obtain ⟨D1,hD1⟩:∃ D1:Dsk,D1 = { D with pt:=upP D.pt }:=⟨_,rfl⟩
 have h2:=h.cells (D':=D1) (by rw [hD1]) (by rw [hD1]) (by rw [hD1])
 have ho1:D1.ok:=by
  rw [hD1]
  exact ⟨ho.len,ho.one,ho.most,ho.free,ho.few,ho.rl,ho.wl,ho.rd,hwr⟩
 have hnx:=dknext_ok h2 ho1 (i:=D.free.length) (by rw [hD1];exact Nat.le_refl _)
 have hn0:nxfP D1 D.free.length=nxfP D D.free.length:=by rw [hD1];rfl
 rw [hn0] at hnx
 have hlay:=dklay_ok (h2.at hck) h2 ho1 (p:=p) (by rw [hD1];exact hp) (s:=le32 (nxfP D D.free.length)) (by rw [le32_len];decide)
 have h3:=h2.lay (b':=layP D1.b p (le32 (nxfP D D.free.length))) (layP_len (by rw [le32_len];decide) (by rw [ho1.len];exact Nat.mul_le_mul_right _ (by rw [hD1];exact hp)))
 obtain ⟨D2,hD2⟩:∃ D2:Dsk,D2 = { D1 with b:=layP D1.b p (le32 (nxfP D D.free.length)) }:=⟨_,rfl⟩
 rw [<-hD2] at h3
 have hlb:D2.b.length=D.b.length:=by
  rw [hD2,hD1]
  exact layP_len (by rw [le32_len];decide) (by rw [ho.len];exact Nat.mul_le_mul_right _ hp)
 have hd:=h.hd
 have hDc:D1.cs B cB fv I cI = [.msl B 0 D.b.length cB,.int .i64 D.most,fv,.msl I 0 D.isF.length cI,.int .i64 D.rl,.int .i64 D.wl,.int .i64 D.rd,.int .i64 (upP D.pt)]:=by rw [hD1];rfl
 have hDc2:∀ fv,D2.cs B cB fv I cI = [.msl B 0 D.b.length cB,.int .i64 D.most,fv,.msl I 0 D.isF.length cI,.int .i64 D.rl,.int .i64 D.wl,.int .i64 D.rd,.int .i64 (upP D.pt)]:=fun fv=>by
  unfold Dsk.cs
  rw [hlb,hD2,hD1]
 obtain ⟨τ1,hτ1⟩:∃ τ,τ=σ.set d (some (.obj (D1.cs B cB fv I cI))):=⟨_,rfl⟩
 rw [<-hτ1] at hlay h3 hnx
 have hds:σ.set d (some (.obj [.msl B 0 D.b.length cB,.int .i64 D.most,fv,.msl I 0 D.isF.length cI,.int .i64 D.rl,.int .i64 D.wl,.int .i64 D.rd,.int .i64 (upP D.pt)]))=τ1:=by rw [hτ1,hDc]
 have hd1:τ1 d=some (.obj [.msl B 0 D.b.length cB,.int .i64 D.most,fv,.msl I 0 D.isF.length cI,.int .i64 D.rl,.int .i64 D.wl,.int .i64 D.rd,.int .i64 (upP D.pt)]):=by rw [<-hds];exact ASt.set_same _ _ _
 have hlen:lenC fv=some (.int .i64 D.free.length):=by
  rcases h.hF with ⟨hfr,x,_⟩|⟨cF,rF,x1,_⟩
  ·rw [x,hfr];rfl
  ·rw [x1];rfl
 have hup:IntKind.wrap .i64 (D.pt+1)=upP D.pt:=rfl
 unfold Dsk.cs at hd
 obtain ⟨τ2,hτ2⟩:∃ τ,τ=τ1.set B (some (.obj (bytesAV (layP D1.b p (le32 (nxfP D D.free.length)))++rB))):=⟨_,rfl⟩
 rw [<-hτ2] at h3 hlay
 have hd2:=h3.hd
 rw [hDc2] at hd2
 have hg:=fun (K:AV->ASt->Prop) (e:TypeId) (kl:SK)=>h3.growG (p:=p) (K:=K) (e:=e) (kl:=kl) (by rw [hD2,hD1];show D.free.length<=100000;omega)
 refine a102 (by simp) ?_
 simp (disch:=first|assumption|omega|(simp only [List.length_append,List.length_cons,List.length_nil];omega)) only [go_sem]
 refine hh.mono ?_
 rintro v σ1 ⟨rfl,rfl⟩
 simp (disch:=first|assumption|omega|(simp only [List.length_append,List.length_cons,List.length_nil];omega)) only [go_sem]
 refine hf.mono ?_
 rintro v σ1 ⟨rfl,rfl⟩
 simp (disch:=first|assumption|omega|(simp only [List.length_append,List.length_cons,List.length_nil];omega)) only [go_sem,hd,hup,hds,hd1,hlen]
 refine hnx.mono ?_
 rintro v σ1 ⟨rfl,rfl⟩
 simp (disch:=first|assumption|omega|(simp only [List.length_append,List.length_cons,List.length_nil];omega)) only [go_sem]
 refine hlay.mono ?_
 rintro v σ1 ⟨rfl,rfl⟩
 simp (disch:=first|assumption|omega|(simp only [List.length_append,List.length_cons,List.length_nil];omega)) only [go_sem,hd2]
 have hf2:D2.free=D.free:=by rw [hD2,hD1]
 rw [hf2] at hg
 refine hg _ _ _ fun F' c' τ3 hτd h4=>?_
 rw [hDc2] at hτd h4
 obtain ⟨τ4,hτ4⟩:∃ τ,τ=τ3.set d (some (.obj [.msl B 0 D.b.length cB,.int .i64 D.most,.msl F' 0 (D.free.length+1) c',.msl I 0 D.isF.length cI,.int .i64 D.rl,.int .i64 D.wl,.int .i64 D.rd,.int .i64 (upP D.pt)])):=⟨_,rfl⟩
 rw [<-hτ4] at h4
 have hd4:τ4 d=some (.obj [.msl B 0 D.b.length cB,.int .i64 D.most,.msl F' 0 (D.free.length+1) c',.msl I 0 D.isF.length cI,.int .i64 D.rl,.int .i64 D.wl,.int .i64 D.rd,.int .i64 (upP D.pt)]):=by rw [hτ4];exact ASt.set_same _ _ _
 have hI4:=h4.hI
 have hi4:({ D2 with free:=D.free ++ [p] }:Dsk).isF=D.isF:=by rw [hD2,hD1]
 have h5:=h4.mark (p:=p) (by rw [hi4];exact hp) true
 rw [hi4] at hI4 h5
 have hml:p+1<=(D.isF.map AV.bool++rI).length:=by rw [List.length_append,List.length_map];omega
 have hfin:({ ({ D2 with free:=D.free ++ [p] }:Dsk) with isF:=D.isF.set p true }:Dsk)=gaveG D p:=by rw [hD2,hD1];rfl
 rw [hfin] at h5
 generalize D.isF.map AV.bool++rI=MI at *
 have i2:(p:Int)<(D.isF.length:Int):=by omega
 simp (disch:=first|assumption|omega|(simp only [List.length_append,List.length_cons,List.length_nil];omega)) only [go_sem,hτd]
 rw [<-hτ4]
 simp (disch:=first|assumption|omega|(simp only [List.length_append,List.length_cons,List.length_nil];omega)) only [go_sem,hd4,hI4,hml,Nat.zero_add,Int.toNat_natCast]
 exact retC_by (.refl _) (.refl _) ⟨rfl,_,_,_,_,_,_,_,_,h5⟩
theorem DM.dropG (h:DM σ0 d D σ B cB rB fv F I cI rI) {p:Nat} {l:List Nat} (hf:D.free=l ++ [p]):∃ cF rF,fv = .msl F 0 (l.length+1) cF/\l.length+1<=cF/\σ F=some (.obj (freeV l++([.int .i64 p]++rF)))/\DM σ0 d { D with free:=l } (σ.set d (some (.obj (D.cs B cB (.msl F 0 l.length cF) I cI)))) B cB rB (.msl F 0 l.length cF) F I cI rI:=by
 have hnl:(l ++ [p]).length=l.length+1:=by rw [List.length_append];rfl
 rcases h.hF with ⟨x1,_⟩|⟨cF,rF,x1,x2,x3,x4,x5,x6,x7,x8⟩
 ·rw [hf] at x1;simp at x1
 ·rw [hf,hnl] at x1
  rw [hf,freeV_app,List.append_assoc] at x2
  rw [hf,hnl] at x3 x4
  refine ⟨cF,rF,x1,x3,x2,⟨ASt.set_same _ _ _,?_,?_,h.cB,h.cI,.inr ⟨cF,[.int .i64 p]++rF,rfl,?_,by show l.length<=cF;omega,?_,x5,x6,x7,x8⟩,h.n1,h.n2,h.n3,h.z1,h.z2,h.z3,?_⟩⟩
  ·rw [ASt.set_ne (Ne.symm h.n1)];exact h.hB
  ·rw [ASt.set_ne (Ne.symm h.n2)];exact h.hI
  ·rw [ASt.set_ne x5,x2];rfl
  ·show ([AV.int .i64 (p:Int)]++rF).length=cF-l.length
   rw [List.length_append,x4]
   show 1+(cF-(l.length+1))=cF-l.length
   omega
  ·intro x h1 h2 h3 h4
   rw [ASt.set_ne h1]
   exact h.out x h1 h2 h3 h4
set_option maxHeartbeats 1000000 in
theorem dktake_fg (h:DM σ0 d D σ B cB rB fv F I cI rI) (hck:CkT σ0) (ho:D.ok) {p:Nat} {l:List Nat} (hfree:D.free=l ++ [p]) (hwl:D.wl = -1) :
  ACalls Tryz.prog 24 [.ptr d 0] σ fun v σ'=>v = .tuple [.int .i64 p,.int .i64 0]/\DiskAt σ0 d (retookG D p l) σ':=by
 have hm:=ho.most
 have hwr:=wrap64_rng (D.pt+1)
 have hfew:=ho.few
 have hp:p<D.isF.length:=ho.free p (by rw [hfree];simp)
 have hro:=dkroom_ok h ho
 have hf:=dkfailW_ok h ho
 have hfd:failD D.wl=(-1,0):=by rw [hwl];rfl
 have hDw:({ D with wl := -1 }:Dsk)=D:=by rw [<-hwl]
 rw [hfd] at hf
 dsimp only at hf
 rw [hDw] at hf
 have hset:σ.set d (some (.obj (D.cs B cB fv I cI)))=σ:=by
  funext x
  by_cases hx:x=d
  ·rw [hx,ASt.set_same,h.hd]
  ·rw [ASt.set_ne hx]
 rw [hset] at hf
 obtain ⟨D1,hD1⟩:∃ D1:Dsk,D1 = { D with pt:=upP D.pt }:=⟨_,rfl⟩
 have h1:=h.cells (D':=D1) (by rw [hD1]) (by rw [hD1]) (by rw [hD1])
 have ho1:D1.ok:=by
  rw [hD1]
  exact ⟨ho.len,ho.one,ho.most,ho.free,ho.few,ho.rl,ho.wl,ho.rd,hwr⟩
 have hi1:D1.isF=D.isF:=by rw [hD1]
 have hb1:D1.b=D.b:=by rw [hD1]
 have hcnt:=dkcount_ok h1 ho1
 rw [hi1] at hcnt
 have hd:=h.hd
 have hDc:∀ fv,D1.cs B cB fv I cI = [.msl B 0 D.b.length cB,.int .i64 D.most,fv,.msl I 0 D.isF.length cI,.int .i64 D.rl,.int .i64 D.wl,.int .i64 D.rd,.int .i64 (upP D.pt)]:=fun fv=>by rw [hD1];rfl
 have hnl:(l ++ [p]).length=l.length+1:=by rw [List.length_append];rfl
 rw [hfree,hnl] at hro hfew
 have e0:¬ (D.most-(D.isF.length:Int)+((l.length+1:Nat):Int))=0:=by omega
 obtain ⟨cF,rF,hfv,hcF,hFm,h2⟩:=h1.dropG (p:=p) (l:=l) (by rw [hD1];exact hfree)
 subst hfv
 rw [ASt.set_set] at h2
 obtain ⟨D2,hD2⟩:∃ D2:Dsk,D2 = { D1 with free:=l }:=⟨_,rfl⟩
 rw [<-hD2] at h2
 have hi2:D2.isF=D.isF:=by rw [hD2,hD1]
 have h3:=h2.mark (p:=p) (by rw [hi2];exact hp) false
 obtain ⟨D3,hD3⟩:∃ D3:Dsk,D3 = { D2 with isF:=D2.isF.set p false }:=⟨_,rfl⟩
 rw [<-hD3] at h3
 have hl3:D3.isF.length=D.isF.length:=by rw [hD3];show (D2.isF.set p false).length=_;rw [List.length_set,hi2]
 have hb3:D3.b=D.b:=by rw [hD3,hD2,hD1]
 have ho3:D3.ok:=by
  refine ⟨?_,?_,?_,?_,?_,?_,?_,?_,?_⟩
  ·rw [hb3,hl3];exact ho.len
  ·rw [hl3];exact ho.one
  ·rw [hl3,hD3,hD2,hD1];exact ho.most
  ·rw [hl3,hD3,hD2]
   intro q hq
   have hq:q∈l:=hq
   exact ho.free q (by rw [hfree];simp [hq])
  ·rw [hl3,hD3,hD2];show l.length<=D.isF.length;omega
  ·rw [hD3,hD2,hD1];exact ho.rl
  ·rw [hD3,hD2,hD1];exact ho.wl
  ·rw [hD3,hD2,hD1];exact ho.rd
  ·rw [hD3,hD2,hD1];exact hwr
 have hlay:=dklay_ok (h3.at hck) h3 ho3 (p:=p) (by rw [hl3];exact hp) (s := []) (by decide)
 have h4:=h3.lay (b':=layP D3.b p []) (layP_len (by decide) (by rw [hb3,ho.len];exact Nat.mul_le_mul_right _ hp))
 have hfin:({ D3 with b:=layP D3.b p [] }:Dsk)=retookG D p l:=by rw [hD3,hD2,hD1];rfl
 rw [hfin] at h4
 have hI2:=h2.hI
 rw [hi2] at hI2 h3 h4 hlay
 have hd1:=h1.hd
 rw [hDc] at hd1 hFm hcnt h1
 have hd2:=h2.hd
 have hDc2:D2.cs B cB (.msl F 0 l.length cF) I cI = [.msl B 0 D.b.length cB,.int .i64 D.most,.msl F 0 l.length cF,.msl I 0 D.isF.length cI,.int .i64 D.rl,.int .i64 D.wl,.int .i64 D.rd,.int .i64 (upP D.pt)]:=by rw [hD2,hD1];rfl
 rw [hDc2] at hd2
 rw [hDc] at hd2 hI2 h2 h3 h4 hlay
 have hml:p+1<=(D.isF.map AV.bool++rI).length:=by rw [List.length_append,List.length_map];omega
 have hlc:(l.length:Int)<=(cF:Int):=by omega
 have hln:(l.length:Int)<=60000:=by omega
 have hF0:(freeV l++([AV.int .i64 (p:Int)]++rF))[l.length]? = some (.int .i64 p):=by
  rw [List.getElem?_append_right (by rw [freeV_len];exact Nat.le_refl _),freeV_len,Nat.sub_self]
  rfl
 have e1:((l.length:Int)+1-1).toNat=l.length:=by omega
 have e2:((l.length+1:Nat):Int)=(l.length:Int)+1:=rfl
 have e3:(0:Int)<(l.length:Int)+1:=by omega
 have e4:(l.length:Int)+1-1=(l.length:Int):=by omega
 generalize D.isF.map AV.bool++rI=MI at *
 generalize freeV l++([AV.int .i64 (p:Int)]++rF)=MF at *
 have hds:σ.set d (some (.obj [.msl B 0 D.b.length cB,.int .i64 D.most,.msl F 0 (l.length+1) cF,.msl I 0 D.isF.length cI,.int .i64 D.rl,.int .i64 D.wl,.int .i64 D.rd,.int .i64 (upP D.pt)]))=σ.set d (some (.obj [.msl B 0 D.b.length cB,.int .i64 D.most,.msl F 0 (l.length+1) cF,.msl I 0 D.isF.length cI,.int .i64 D.rl,.int .i64 D.wl,.int .i64 D.rd,.int .i64 (upP D.pt)])):=rfl
 obtain ⟨τ1,hτ1⟩:∃ τ,τ=σ.set d (some (.obj [.msl B 0 D.b.length cB,.int .i64 D.most,.msl F 0 (l.length+1) cF,.msl I 0 D.isF.length cI,.int .i64 D.rl,.int .i64 D.wl,.int .i64 D.rd,.int .i64 (upP D.pt)])):=⟨_,rfl⟩
 rw [<-hτ1] at hd1 hFm hcnt
 obtain ⟨τ2,hτ2⟩:∃ τ,τ=σ.set d (some (.obj [.msl B 0 D.b.length cB,.int .i64 D.most,.msl F 0 l.length cF,.msl I 0 D.isF.length cI,.int .i64 D.rl,.int .i64 D.wl,.int .i64 D.rd,.int .i64 (upP D.pt)])):=⟨_,rfl⟩
 rw [<-hτ2] at hd2 hI2 h3 h4 hlay
 have hst:τ1.set d (some (.obj [.msl B 0 D.b.length cB,.int .i64 D.most,.msl F 0 l.length cF,.msl I 0 D.isF.length cI,.int .i64 D.rl,.int .i64 D.wl,.int .i64 D.rd,.int .i64 (upP D.pt)]))=τ2:=by rw [hτ1,ASt.set_set,hτ2]
 have i2:(p:Int)<(D.isF.length:Int):=by omega
 unfold Dsk.cs at hd
 have hup:IntKind.wrap .i64 (D.pt+1)=upP D.pt:=rfl
 refine a24 (by simp) ?_
 simp (disch:=first|assumption|omega|(simp only [List.length_append,List.length_cons,List.length_nil];omega)) only [go_sem]
 refine hro.mono ?_
 rintro v σ' ⟨rfl,rfl⟩
 simp (disch:=first|assumption|omega|(simp only [List.length_append,List.length_cons,List.length_nil];omega)) only [go_sem,e0,hd]
 refine hf.mono ?_
 rintro v σ'' ⟨rfl,rfl⟩
 simp (disch:=first|assumption|omega|(simp only [List.length_append,List.length_cons,List.length_nil];omega)) only [go_sem,hd,hup]
 rw [<-hτ1]
 refine hcnt.mono ?_
 rintro v σ'' ⟨rfl,rfl⟩
 simp (disch:=first|assumption|omega|(simp only [List.length_append,List.length_cons,List.length_nil];omega)) only [go_sem,hd1,hFm,e2,e4,hF0,hst,hd2,hI2,hml,Nat.sub_zero,Nat.zero_add,Nat.zero_mul,Int.toNat_natCast]
 refine hlay.mono ?_
 rintro v σ6 ⟨rfl,rfl⟩
 simp (disch:=first|assumption|omega|(simp only [List.length_append,List.length_cons,List.length_nil];omega)) only [go_sem]
 exact retC_by (.refl _) (.refl _) ⟨rfl,_,_,_,_,_,_,_,_,h4⟩
def tookG (D:Dsk):Dsk := { D with b:=layP (D.b++List.replicate 512 0) D.isF.length [],isF:=D.isF ++ [false],pt:=upP D.pt }
theorem tookG_ok (ho:D.ok) (hroom:(D.isF.length:Int)<D.most):(tookG D).ok:=by
 have hl:=ho.len
 have hm:=ho.most
 have hnl:(D.isF ++ [false]).length=D.isF.length+1:=by rw [List.length_append];rfl
 have hbl:(D.b++List.replicate 512 0).length=(D.isF.length+1)*512:=by rw [List.length_append,List.length_replicate];omega
 refine ⟨?_,?_,?_,?_,?_,ho.rl,ho.wl,ho.rd,?_⟩
 ·show (layP (D.b++List.replicate 512 0) D.isF.length []).length=(D.isF ++ [false]).length*512
  rw [layP_len (by decide) (by rw [hbl];exact Nat.le_refl _),hbl,hnl]
 ·show 1<=(D.isF ++ [false]).length
  omega
 ·show ((D.isF ++ [false]).length:Int)<=D.most/\D.most<=60000
  omega
 ·intro p hp
  have:=ho.free p hp
  show p<(D.isF ++ [false]).length
  omega
 ·show D.free.length<=(D.isF ++ [false]).length
  have:=ho.few
  omega
 ·exact wrap64_rng _
set_option maxHeartbeats 1000000 in
theorem dktake_ng (hT:CkT σ) (h:DM σ0 d D σ B cB rB fv F I cI rI) (hck:CkT σ0) (ho:D.ok) (hfree:D.free = []) (hroom:(D.isF.length:Int)<D.most) (hwl:D.wl = -1) :
  ACalls Tryz.prog 24 [.ptr d 0] σ fun v σ'=>v = .tuple [.int .i64 D.isF.length,.int .i64 0]/\DiskAt σ0 d (tookG D) σ':=by
 have hm:=ho.most
 have hbl:=ho.len
 have hwr:=wrap64_rng (D.pt+1)
 have hup:IntKind.wrap .i64 (D.pt+1)=upP D.pt:=rfl
 have hro:=dkroom_ok h ho
 have hf:=dkfailW_ok h ho
 have hfd:failD D.wl=(-1,0):=by rw [hwl];rfl
 have hDw:({ D with wl := -1 }:Dsk)=D:=by rw [<-hwl]
 rw [hfd] at hf
 dsimp only at hf
 rw [hDw] at hf
 have hset:σ.set d (some (.obj (D.cs B cB fv I cI)))=σ:=by
  funext x
  by_cases hx:x=d
  ·rw [hx,ASt.set_same,h.hd]
  ·rw [ASt.set_ne hx]
 rw [hset] at hf
 obtain ⟨D1,hD1⟩:∃ D1:Dsk,D1 = { D with pt:=upP D.pt }:=⟨_,rfl⟩
 have h1:=h.cells (D':=D1) (by rw [hD1]) (by rw [hD1]) (by rw [hD1])
 have ho1:D1.ok:=by
  rw [hD1]
  exact ⟨ho.len,ho.one,ho.most,ho.free,ho.few,ho.rl,ho.wl,ho.rd,hwr⟩
 have hcnt:=dkcount_ok h1 ho1
 have hd:=h.hd
 have hd1:=h1.hd
 have hDc:D1.cs B cB fv I cI = [.msl B 0 D.b.length cB,.int .i64 D.most,fv,.msl I 0 D.isF.length cI,.int .i64 D.rl,.int .i64 D.wl,.int .i64 D.rd,.int .i64 (upP D.pt)]:=by rw [hD1];rfl
 rw [hfree,List.length_nil] at hro
 have e0:¬ (D.most-(D.isF.length:Int)+((0:Nat):Int))=0:=by omega
 have hi1:D1.isF=D.isF:=by rw [hD1]
 have hb1:D1.b=D.b:=by rw [hD1]
 have hfl:lenC fv=some (.int .i64 0):=by
  rcases h.hF with ⟨_,x,_⟩|⟨cF,rF,x1,_⟩
  ·rw [x];rfl
  ·rw [x1,hfree];rfl
 obtain ⟨τ1,hτ1⟩:∃ τ,τ=σ.set d (some (.obj (D1.cs B cB fv I cI))):=⟨_,rfl⟩
 rw [<-hτ1] at h1 hcnt hd1
 have hds:σ.set d (some (.obj [.msl B 0 D.b.length cB,.int .i64 D.most,fv,.msl I 0 D.isF.length cI,.int .i64 D.rl,.int .i64 D.wl,.int .i64 D.rd,.int .i64 (upP D.pt)]))=τ1:=by rw [hτ1,hDc]
 rw [hDc] at hd1
 rw [hi1] at hcnt
 unfold Dsk.cs at hd
 refine a24 (by simp) ?_
 simp (disch:=first|assumption|omega|(simp only [List.length_append,List.length_cons,List.length_nil];omega)) only [go_sem]
 refine hro.mono ?_
 rintro v σ' ⟨rfl,rfl⟩
 simp (disch:=first|assumption|omega|(simp only [List.length_append,List.length_cons,List.length_nil];omega)) only [go_sem,e0,hd]
 refine hf.mono ?_
 rintro v σ'' ⟨rfl,rfl⟩
 simp (disch:=first|assumption|omega|(simp only [List.length_append,List.length_cons,List.length_nil];omega)) only [go_sem,hd,hup,hds]
 refine hcnt.mono ?_
 rintro v σ'' ⟨rfl,rfl⟩
 simp (disch:=first|assumption|omega|(simp only [List.length_append,List.length_cons,List.length_nil];omega)) only [go_sem,hd1,hfl]
 have hlb:D.b.length=D1.b.length:=by rw [hb1]
 rw [hlb]
 refine h1.growB (by rw [hb1];omega) fun B' cB' rB' τ2 hτd h2=>?_
 rw [hDc,hlb] at hτd
 obtain ⟨D2,hD2⟩:∃ D2:Dsk,D2 = { D1 with b:=D1.b++List.replicate 512 0 }:=⟨_,rfl⟩
 rw [<-hD2] at h2
 have hDc2:D2.cs B' cB' fv I cI = [.msl B' 0 (D1.b.length+512) cB',.int .i64 D.most,fv,.msl I 0 D.isF.length cI,.int .i64 D.rl,.int .i64 D.wl,.int .i64 D.rd,.int .i64 (upP D.pt)]:=by
  have e:(D1.b++List.replicate 512 0).length=D1.b.length+512:=by rw [List.length_append,List.length_replicate]
  rw [hD2]
  unfold Dsk.cs
  dsimp only
  rw [e,hD1]
 obtain ⟨τ3,hτ3⟩:∃ τ,τ=τ2.set d (some (.obj (D2.cs B' cB' fv I cI))):=⟨_,rfl⟩
 rw [<-hτ3] at h2
 rw [hDc2] at hτ3
 have hd3:=h2.hd
 rw [hDc2] at hd3
 have hi2:D2.isF=D.isF:=by rw [hD2,hD1]
 simp (disch:=first|assumption|omega|(simp only [List.length_append,List.length_cons,List.length_nil];omega)) only [go_sem,hτd,ASt.set_set]
 rw [<-hτ3]
 have hg2:=fun (K:AV->ASt->Prop) (e:TypeId)=>h2.growI (K:=K) (e:=e) (by rw [hi2];omega)
 rw [hi2] at hg2
 refine hg2 _ (0:TypeId) fun I' cI' rI' τ4 hτd4 h4=>?_
 rw [hDc2] at hτd4
 obtain ⟨D3,hD3⟩:∃ D3:Dsk,D3 = { D2 with isF:=D.isF ++ [false] }:=⟨_,rfl⟩
 rw [<-hD3] at h4
 have hDc3:D3.cs B' cB' fv I' cI' = [.msl B' 0 (D1.b.length+512) cB',.int .i64 D.most,fv,.msl I' 0 (D.isF.length+1) cI',.int .i64 D.rl,.int .i64 D.wl,.int .i64 D.rd,.int .i64 (upP D.pt)]:=by
  have e:(D1.b++List.replicate 512 0).length=D1.b.length+512:=by rw [List.length_append,List.length_replicate]
  have e2:(D.isF ++ [false]).length=D.isF.length+1:=by rw [List.length_append];rfl
  rw [hD3]
  unfold Dsk.cs
  dsimp only
  rw [e2,hD2]
  dsimp only
  rw [e,hD1]
 obtain ⟨τ5,hτ5⟩:∃ τ,τ=τ4.set d (some (.obj (D3.cs B' cB' fv I' cI'))):=⟨_,rfl⟩
 rw [<-hτ5] at h4
 rw [hDc3] at hτ5
 have hck5:CkT τ5:=h4.at hck
 have e2:(D.isF ++ [false]).length=D.isF.length+1:=by rw [List.length_append];rfl
 have hi3:D3.isF=D.isF ++ [false]:=by rw [hD3]
 have hb3:D3.b=D.b++List.replicate 512 0:=by rw [hD3,hD2,hD1]
 have ho3:D3.ok:=by
  refine ⟨?_,?_,?_,?_,?_,?_,?_,?_,?_⟩
  ·rw [hb3,hi3,e2,List.length_append,List.length_replicate];omega
  ·rw [hi3,e2];omega
  ·rw [hi3,e2,hD3,hD2,hD1];show ((D.isF.length+1:Nat):Int)<=D.most/\D.most<=60000;omega
  ·rw [hD3,hD2,hD1]
   intro p hp
   have hp:p∈D.free:=hp
   rw [hfree] at hp
   cases hp
  ·rw [hi3,e2,hD3,hD2,hD1];show D.free.length<=_;rw [hfree];exact Nat.zero_le _
  ·rw [hD3,hD2,hD1];exact ho.rl
  ·rw [hD3,hD2,hD1];exact ho.wl
  ·rw [hD3,hD2,hD1];exact ho.rd
  ·rw [hD3,hD2,hD1];exact hwr
 have hlay:=dklay_ok hck5 h4 ho3 (p:=D.isF.length) (by rw [hi3,e2];omega) (s := []) (by decide)
 have h6:=h4.lay (b':=layP D3.b D.isF.length []) (layP_len (by decide) (by rw [hb3,List.length_append,List.length_replicate];omega))
 have hfin:({ D3 with b:=layP D3.b D.isF.length [] }:Dsk)=tookG D:=by rw [hb3,hD3,hD2,hD1];rfl
 rw [hfin] at h6
 simp (disch:=first|assumption|omega|(simp only [List.length_append,List.length_cons,List.length_nil];omega)) only [go_sem,hτd4,ASt.set_set]
 rw [<-hτ5]
 refine hlay.mono ?_
 rintro v σ6 ⟨rfl,rfl⟩
 simp (disch:=first|assumption|omega|(simp only [List.length_append,List.length_cons,List.length_nil];omega)) only [go_sem]
 exact retC_by (.refl _) (.refl _) ⟨rfl,B',cB',rB',fv,F,I',cI',rI',h6⟩
def wroteG (D:Dsk) (p:Nat) (s:List UInt8):Dsk := { D with b:=layP D.b p s,pt:=upP D.pt }
theorem wroteG_ok (ho:D.ok) {p:Nat} (hp:p<D.isF.length) {s:List UInt8} (hs:s.length<=504):(wroteG D p s).ok:=by
 have hl:=ho.len
 have hwr:=wrap64_rng (D.pt+1)
 have hup:IntKind.wrap .i64 (D.pt+1)=upP D.pt:=rfl
 refine ⟨?_,ho.one,ho.most,ho.free,ho.few,ho.rl,ho.wl,ho.rd,hwr⟩
 show (layP D.b p s).length=D.isF.length*512
 rw [layP_len hs (by rw [hl];exact Nat.mul_le_mul_right _ hp),hl]
theorem dkwrite_g (hT:CkT σ) (h:DM σ0 d D σ B cB rB fv F I cI rI) (hck:CkT σ0) (ho:D.ok) (hwl:D.wl = -1) {p:Nat} (h1:1<=p) (hp:p<D.isF.length) (hx:D.isF[p]? = some false) {s:List UInt8} (hs:s.length=504) :
  ACalls Tryz.prog 166 [.ptr d 0,.int .i64 p,.str s] σ fun v σ'=>v = .int .i64 0/\DiskAt σ0 d (wroteG D p s) σ':=by
 have hwr:=wrap64_rng (D.pt+1)
 have hup:IntKind.wrap .i64 (D.pt+1)=upP D.pt:=rfl
 have hm:=ho.most
 have hh:=dkhas_ok h.lm ho.len (by omega) rfl h1 hp hx
 have hf:=dkfailW_ok h ho
 have hfd:failD D.wl=(-1,0):=by rw [hwl];rfl
 have hDw:({ D with wl := -1 }:Dsk)=D:=by rw [<-hwl]
 rw [hfd] at hf
 dsimp only at hf
 rw [hDw] at hf
 have hset:σ.set d (some (.obj (D.cs B cB fv I cI)))=σ:=by
  funext x
  by_cases hx:x=d
  ·rw [hx,ASt.set_same,h.hd]
  ·rw [ASt.set_ne hx]
 rw [hset] at hf
 obtain ⟨D1,hD1⟩:∃ D1:Dsk,D1 = { D with pt:=upP D.pt }:=⟨_,rfl⟩
 have h2:=h.cells (D':=D1) (by rw [hD1]) (by rw [hD1]) (by rw [hD1])
 have ho1:D1.ok:=by
  rw [hD1]
  exact ⟨ho.len,ho.one,ho.most,ho.free,ho.few,ho.rl,ho.wl,ho.rd,hwr⟩
 have hlay:=dklay_ok (h2.at hck) h2 ho1 (p:=p) (by rw [hD1];exact hp) (s:=s) (by omega)
 have h3:=h2.lay (b':=layP D1.b p s) (layP_len (by omega) (by rw [ho1.len];exact Nat.mul_le_mul_right _ (by rw [hD1];exact hp)))
 have hfin:({ D1 with b:=layP D1.b p s }:Dsk)=wroteG D p s:=by rw [hD1];rfl
 rw [hfin] at h3
 have hd:=h.hd
 have hDc:D1.cs B cB fv I cI = [.msl B 0 D.b.length cB,.int .i64 D.most,fv,.msl I 0 D.isF.length cI,.int .i64 D.rl,.int .i64 D.wl,.int .i64 D.rd,.int .i64 (upP D.pt)]:=by rw [hD1];rfl
 obtain ⟨τ1,hτ1⟩:∃ τ,τ=σ.set d (some (.obj (D1.cs B cB fv I cI))):=⟨_,rfl⟩
 rw [<-hτ1] at hlay h3
 have hds:σ.set d (some (.obj [.msl B 0 D.b.length cB,.int .i64 D.most,fv,.msl I 0 D.isF.length cI,.int .i64 D.rl,.int .i64 D.wl,.int .i64 D.rd,.int .i64 (upP D.pt)]))=τ1:=by rw [hτ1,hDc]
 unfold Dsk.cs at hd
 have hs':(s.length:Int)=504:=by omega
 refine a166 (by simp) ?_
 simp (disch:=first|assumption|omega|(simp only [List.length_append,List.length_cons,List.length_nil];omega)) only [go_sem]
 refine hh.mono ?_
 rintro v σ1 ⟨rfl,rfl⟩
 simp (disch:=first|assumption|omega|(simp only [List.length_append,List.length_cons,List.length_nil];omega)) only [go_sem,hs']
 refine hf.mono ?_
 rintro v σ1 ⟨rfl,rfl⟩
 simp (disch:=first|assumption|omega|(simp only [List.length_append,List.length_cons,List.length_nil];omega)) only [go_sem,hd,hup,hds]
 refine hlay.mono ?_
 rintro v σ1 ⟨rfl,rfl⟩
 simp (disch:=first|assumption|omega|(simp only [List.length_append,List.length_cons,List.length_nil];omega)) only [go_sem]
 exact retC_by (.refl _) (.refl _) ⟨rfl,_,_,_,_,_,_,_,_,h3⟩
theorem dkread_g (h:DM σ0 d D σ B cB rB fv F I cI rI) (hck:CkT σ0) (ho:D.ok) (hr:D.rl = -1) {p:Nat} (h1:1<=p) (hp:p<D.isF.length) (hx:D.isF[p]? = some false) :
  ACalls Tryz.prog 139 [.ptr d 0,.int .i64 p] σ fun v σ'=>v=readAV (lookP D.b p)/\DiskAt σ0 d { D with rd:=upP D.rd } σ':=by
 have hm:=ho.most
 have hl:=ho.len
 have hh:=dkhas_ok h.lm ho.len (by omega) rfl h1 hp hx
 have hf:=dkfailR_ok h.lm hr
 have hd:=h.hd
 have h2:=h.cells (D' := { D with rd:=upP D.rd }) rfl rfl rfl
 have hT2:=h2.at hck
 have hk:=dklook_ok hT2 h2.lm (p:=p) (by show (p+1)*512<=D.b.length;rw [hl];exact Nat.mul_le_mul_right _ hp) (by omega)
 have hup:IntKind.wrap .i64 (D.rd+1)=upP D.rd:=rfl
 have hfin:DiskAt σ0 d { D with rd:=upP D.rd } (σ.set d (some (.obj ({ D with rd:=upP D.rd }.cs B cB fv I cI)))):=⟨_,_,_,_,_,_,_,_,h2⟩
 dsimp only at hk
 unfold Dsk.cs at hd hk hfin
 dsimp only at hk hfin
 refine a139 (by simp) ?_
 simp (disch:=first|assumption|omega|(simp only [List.length_append,List.length_cons,List.length_nil];omega)) only [go_sem]
 refine hh.mono ?_
 rintro v σ1 ⟨rfl,rfl⟩
 simp (disch:=first|assumption|omega|(simp only [List.length_append,List.length_cons,List.length_nil];omega)) only [go_sem,hd]
 refine hf.mono ?_
 rintro v σ1 ⟨rfl,rfl⟩
 simp (disch:=first|assumption|omega|(simp only [List.length_append,List.length_cons,List.length_nil];omega)) only [go_sem,hd,hup]
 refine hk.mono ?_
 rintro v σ1 ⟨rfl,rfl⟩
 cases lookP D.b p with
 | some s=>
   unfold lookAV readAV
   simp (disch:=first|assumption|omega|(simp only [List.length_append,List.length_cons,List.length_nil];omega)) only [go_sem]
   exact retC_by (.refl _) (.refl _) ⟨rfl,hfin⟩
 | none=>
   unfold lookAV readAV
   simp (disch:=first|assumption|omega|(simp only [List.length_append,List.length_cons,List.length_nil];omega)) only [go_sem]
   exact retC_by (.refl _) (.refl _) ⟨rfl,hfin⟩
end
end Go.A
namespace Go.A
open Go.Proofs
theorem nodup_len:∀ (n:Nat) {l:List Nat},l.Nodup->(∀ q∈l,q<n)->l.length<=n
 | 0,[],_,_=>Nat.le_refl _
 | 0,a::l,_,h=>absurd (h a List.mem_cons_self) (by omega)
 | n+1,l,hn,h=>by
   by_cases hm:n∈l
   ·have h1:=nodup_len n (hn.erase n) fun q hq=>by
     have h2:=(hn.mem_erase_iff).1 hq
     have h3:=h q h2.2
     have:=h2.1
     omega
    rw [List.length_erase_of_mem hm] at h1
    omega
   ·have:=nodup_len n hn fun q hq=>by
     have h3:=h q hq
     have:q≠n:=fun he=>hm (he▸hq)
     omega
    omega
structure DkIs (D:Dsk) (m:Int) (L:List (List UInt8)):Prop where
 ok:D.ok
 rl:D.rl = -1
 wl:D.wl = -1
 most:D.most=m
 b:D.b=imgF 0 L
 n:D.isF.length=L.length
 len:∀ s∈L,s.length<=504
 fr:∀ p∈D.free,D.isF[p]? = some true
 nd:D.free.Nodup
 one:∀ p∈D.free,1<=p
def dpg (D:Dsk) (L:List (List UInt8)) (p:Nat):Option (List UInt8):=if 1<=p/\D.isF[p]? = some false then some (padB (L.getD p [])) else none
def pset (g:Nat->Option (List UInt8)) (p:Nat) (v:Option (List UInt8)):Nat->Option (List UInt8):=fun q=>if q=p then v else g q
theorem pset_same (g:Nat->Option (List UInt8)) (p:Nat) (v:Option (List UInt8)):pset g p v p=v:=by simp [pset]
theorem pset_ne {g:Nat->Option (List UInt8)} {p q:Nat} {v:Option (List UInt8)} (h:q≠p):pset g p v q=g q:=by simp [pset,h]
section
variable {D:Dsk} {m:Int} {L:List (List UInt8)} {p:Nat} {s:List UInt8}
theorem dpg_some (h:dpg D L p=some s):1<=p/\D.isF[p]? = some false/\p<D.isF.length/\s=padB (L.getD p []):=by
 unfold dpg at h
 split at h
 ·rename_i hc
  exact ⟨hc.1,hc.2,(List.getElem?_eq_some_iff.1 hc.2).1,(Option.some.inj h).symm⟩
 ·cases h
theorem DkIs.get (h:DkIs D m L) (hp:dpg D L p=some s):L[p]? = some (L.getD p []):=by
 have h1:=(dpg_some hp).2.2.1
 rw [h.n] at h1
 rw [List.getD_eq_getElem?_getD,List.getElem?_eq_getElem h1]
 rfl
theorem DkIs.slen (h:DkIs D m L) (hp:dpg D L p=some s):s.length=504:=by
 rw [(dpg_some hp).2.2.2]
 exact padB_len (h.len _ (List.mem_of_getElem? (h.get hp)))
theorem DkIs.look (h:DkIs D m L) (hp:dpg D L p=some s):lookP D.b p=some s:=by
 obtain ⟨h1,h2,h3,h4⟩:=dpg_some hp
 have hm:=h.ok.most
 rw [h4,h.b]
 exact look_page (pg_img h.len (h.get hp)) (by omega)
theorem DkIs.wrote (h:DkIs D m L) {t:List UInt8} (hp:dpg D L p=some t) (hs:s.length=504):DkIs (wroteG D p s) m (L.set p s)/\dpg (wroteG D p s) (L.set p s)=pset (dpg D L) p (some s):=by
 obtain ⟨h1,h2,h3,h4⟩:=dpg_some hp
 have hpl:p<L.length:=by rw [<-h.n];exact h3
 refine ⟨⟨wroteG_ok h.ok h3 (by omega),h.rl,h.wl,h.most,?_,?_,?_,h.fr,h.nd,h.one⟩,?_⟩
 ·show layP D.b p s=_
  rw [h.b,lay_img h.len hpl]
 ·show D.isF.length=(L.set p s).length
  rw [List.length_set,h.n]
 ·intro x hx
  rcases List.mem_or_eq_of_mem_set hx with hx|rfl
  ·exact h.len x hx
  ·omega
 ·funext q
  unfold pset dpg
  show (if 1<=q/\D.isF[q]? = some false then some (padB ((L.set p s).getD q [])) else none)=_
  by_cases hq:q=p
  ·subst hq
   rw [if_pos ⟨h1,h2⟩,if_pos rfl,List.getD_eq_getElem?_getD,List.getElem?_set_self hpl,Option.getD_some,padB_full hs]
  ·rw [if_neg hq,List.getD_eq_getElem?_getD,List.getElem?_set_ne (Ne.symm hq),← List.getD_eq_getElem?_getD]
theorem DkIs.took (h:DkIs D m L) (hf:D.free = []) (hroom:(L.length:Int)<m):DkIs (tookG D) m (L ++ [[]])/\dpg D L L.length=none/\dpg (tookG D) (L ++ [[]])=pset (dpg D L) L.length (some (List.replicate 504 0)):=by
 have hl1:=h.ok.one
 have hn:=h.n
 have hff:∀ q,(D.isF ++ [false])[q]? = some false↔D.isF[q]? = some false\/q=D.isF.length:=by
  intro q
  by_cases hq:q<D.isF.length
  ·rw [List.getElem?_append_left hq]
   constructor
   ·exact .inl
   ·rintro (h|h)
    ·exact h
    ·omega
  ·rw [List.getElem?_append_right (by omega)]
   by_cases hq2:q=D.isF.length
   ·subst hq2;simp
   ·have:q-D.isF.length≠0:=by omega
    rw [List.getElem?_eq_none (by simp;omega),List.getElem?_eq_none (by omega)]
    simp [hq2]
 refine ⟨⟨tookG_ok h.ok (by rw [h.most,hn];exact hroom),h.rl,h.wl,h.most,?_,?_,?_,?_,?_,?_⟩,?_,?_⟩
 ·show layP (D.b++List.replicate 512 0) D.isF.length []=_
  rw [h.b,hn,lay_new h.len]
 ·show (D.isF ++ [false]).length=(L ++ [[]]).length
  rw [List.length_append,List.length_append,hn]
  rfl
 ·intro x hx
  rcases List.mem_append.1 hx with hx|hx
  ·exact h.len x hx
  ·rw [List.mem_singleton.1 hx];decide
 ·intro p hp
  have hp:p∈D.free:=hp
  rw [hf] at hp;cases hp
 ·show D.free.Nodup
  rw [hf];exact List.nodup_nil
 ·intro p hp
  have hp:p∈D.free:=hp
  rw [hf] at hp;cases hp
 ·unfold dpg
  rw [if_neg]
  rintro ⟨_,h2⟩
  have:=(List.getElem?_eq_some_iff.1 h2).1
  omega
 ·funext q
  unfold pset dpg
  show (if 1<=q/\(D.isF ++ [false])[q]? = some false then some (padB ((L ++ [[]]).getD q [])) else none)=_
  by_cases hq:q=L.length
  ·subst hq
   rw [if_pos ⟨by omega,(hff _).2 (.inr hn.symm)⟩,if_pos rfl,List.getD_eq_getElem?_getD,List.getElem?_append_right (Nat.le_refl _),Nat.sub_self]
   rfl
  ·rw [if_neg hq]
   have e:(L ++ [[]]).getD q []=L.getD q []:=by
    rw [List.getD_eq_getElem?_getD,List.getD_eq_getElem?_getD]
    by_cases hq2:q<L.length
    ·rw [List.getElem?_append_left hq2]
    ·rw [List.getElem?_append_right (by omega),List.getElem?_eq_none (l:=L) (by omega),List.getElem?_eq_none (by simp;omega)]
   rw [e]
   by_cases hc:1<=q/\D.isF[q]? = some false
   ·rw [if_pos hc,if_pos ⟨hc.1,(hff q).2 (.inl hc.2)⟩]
   ·rw [if_neg hc,if_neg]
    rintro ⟨h1,h2⟩
    rcases (hff q).1 h2 with h2|h2
    ·exact hc ⟨h1,h2⟩
    ·omega
theorem DkIs.retook (h:DkIs D m L) {l:List Nat} (hf:D.free=l ++ [p]):1<=p/\p<L.length/\DkIs (retookG D p l) m (L.set p [])/\dpg D L p=none/\dpg (retookG D p l) (L.set p [])=pset (dpg D L) p (some (List.replicate 504 0)):=by
 have hpm:p∈D.free:=by rw [hf];simp
 have hp1:=h.one p hpm
 have hpt:=h.fr p hpm
 have hpn:p<D.isF.length:=(List.getElem?_eq_some_iff.1 hpt).1
 have hpl:p<L.length:=by rw [<-h.n];exact hpn
 have hnd:=h.nd
 rw [hf] at hnd
 have hfew:=h.ok.few
 rw [hf,List.length_append] at hfew
 have hfew:l.length+1<=D.isF.length:=hfew
 have hne:∀ q∈l,q≠p:=fun q hq he=>by
  have:=(List.nodup_append.1 hnd).2.2 q hq p (List.mem_singleton_self p)
  exact this he
 refine ⟨hp1,hpl,⟨⟨?_,?_,?_,?_,?_,h.ok.rl,h.ok.wl,h.ok.rd,wrap64_rng _⟩,h.rl,h.wl,h.most,?_,?_,?_,?_,(List.nodup_append.1 hnd).1,fun q hq=>h.one q (by rw [hf];exact List.mem_append_left _ hq)⟩,?_,?_⟩
 ·show (layP D.b p []).length=(D.isF.set p false).length*512
  rw [layP_len (by decide) (by rw [h.ok.len];exact Nat.mul_le_mul_right _ hpn),List.length_set,h.ok.len]
 ·show 1<=(D.isF.set p false).length
  rw [List.length_set];exact h.ok.one
 ·show ((D.isF.set p false).length:Int)<=D.most/\D.most<=60000
  rw [List.length_set];exact h.ok.most
 ·intro q hq
  have hq:q∈l:=hq
  show q<(D.isF.set p false).length
  rw [List.length_set]
  exact h.ok.free q (by rw [hf];exact List.mem_append_left _ hq)
 ·show l.length<=(D.isF.set p false).length
  rw [List.length_set];omega
 ·show layP D.b p []=_
  rw [h.b,lay_img h.len hpl]
 ·show (D.isF.set p false).length=(L.set p []).length
  rw [List.length_set,List.length_set,h.n]
 ·intro x hx
  rcases List.mem_or_eq_of_mem_set hx with hx|rfl
  ·exact h.len x hx
  ·decide
 ·intro q hq
  have hq:q∈l:=hq
  show (D.isF.set p false)[q]? = some true
  rw [List.getElem?_set_ne (Ne.symm (hne q hq))]
  exact h.fr q (by rw [hf];exact List.mem_append_left _ hq)
 ·unfold dpg
  rw [if_neg]
  rintro ⟨_,h2⟩
  rw [hpt] at h2;cases h2
 ·funext q
  unfold pset dpg
  show (if 1<=q/\(D.isF.set p false)[q]? = some false then some (padB ((L.set p []).getD q [])) else none)=_
  by_cases hq:q=p
  ·subst hq
   rw [if_pos ⟨hp1,List.getElem?_set_self hpn⟩,if_pos rfl,List.getD_eq_getElem?_getD,List.getElem?_set_self hpl,Option.getD_some]
   rfl
  ·rw [if_neg hq,List.getElem?_set_ne (Ne.symm hq),List.getD_eq_getElem?_getD,List.getElem?_set_ne (Ne.symm hq),← List.getD_eq_getElem?_getD]
theorem DkIs.gave (h:DkIs D m L) (hp:dpg D L p=some s):DkIs (gaveG D p) m (L.set p (le32 (nxfP D D.free.length)))/\dpg (gaveG D p) (L.set p (le32 (nxfP D D.free.length)))=pset (dpg D L) p none:=by
 obtain ⟨h1,h2,h3,h4⟩:=dpg_some hp
 have hpl:p<L.length:=by rw [<-h.n];exact h3
 have hni:p ∉ D.free:=fun hm=>by
  have:=h.fr p hm
  rw [h2] at this;cases this
 have hfl:∀ q∈D.free ++ [p],q<D.isF.length:=fun q hq=>by
  rcases List.mem_append.1 hq with hq|hq
  ·exact h.ok.free q hq
  ·rw [List.mem_singleton.1 hq];exact h3
 have hnd:(D.free ++ [p]).Nodup:=by
  rw [List.nodup_append]
  refine ⟨h.nd,by simp,fun a ha b hb=>?_⟩
  rw [List.mem_singleton.1 hb]
  rintro rfl
  exact hni ha
 have hfew:(D.free ++ [p]).length<=D.isF.length:=by
  exact nodup_len _ hnd hfl
 refine ⟨⟨⟨?_,?_,?_,?_,?_,h.ok.rl,h.ok.wl,h.ok.rd,wrap64_rng _⟩,h.rl,h.wl,h.most,?_,?_,?_,?_,hnd,?_⟩,?_⟩
 ·show (layP D.b p (le32 (nxfP D D.free.length))).length=(D.isF.set p true).length*512
  rw [layP_len (by rw [le32_len];decide) (by rw [h.ok.len];exact Nat.mul_le_mul_right _ h3),List.length_set,h.ok.len]
 ·show 1<=(D.isF.set p true).length
  rw [List.length_set];exact h.ok.one
 ·show ((D.isF.set p true).length:Int)<=D.most/\D.most<=60000
  rw [List.length_set];exact h.ok.most
 ·intro q hq
  show q<(D.isF.set p true).length
  rw [List.length_set]
  exact hfl q hq
 ·show (D.free ++ [p]).length<=(D.isF.set p true).length
  rw [List.length_set];exact hfew
 ·show layP D.b p (le32 (nxfP D D.free.length))=_
  rw [h.b,lay_img h.len hpl]
 ·show (D.isF.set p true).length=(L.set p (le32 (nxfP D D.free.length))).length
  rw [List.length_set,List.length_set,h.n]
 ·intro x hx
  rcases List.mem_or_eq_of_mem_set hx with hx|rfl
  ·exact h.len x hx
  ·rw [le32_len];decide
 ·intro q hq
  show (D.isF.set p true)[q]? = some true
  by_cases hq2:q=p
  ·subst hq2;exact List.getElem?_set_self h3
  ·rw [List.getElem?_set_ne (Ne.symm hq2)]
   rcases List.mem_append.1 hq with hq|hq
   ·exact h.fr q hq
   ·exact absurd (List.mem_singleton.1 hq) hq2
 ·intro q hq
  have hq:q∈D.free ++ [p]:=hq
  rcases List.mem_append.1 hq with hq|hq
  ·exact h.one q hq
  ·rw [List.mem_singleton.1 hq];exact h1
 ·funext q
  unfold pset dpg
  show (if 1<=q/\(D.isF.set p true)[q]? = some false then some (padB ((L.set p (le32 (nxfP D D.free.length))).getD q [])) else none)=_
  by_cases hq:q=p
  ·subst hq
   rw [if_pos rfl,if_neg]
   rintro ⟨_,h5⟩
   rw [List.getElem?_set_self h3] at h5
   cases h5
  ·rw [if_neg hq,List.getElem?_set_ne (Ne.symm hq),List.getD_eq_getElem?_getD,List.getElem?_set_ne (Ne.symm hq),← List.getD_eq_getElem?_getD]
theorem DkIs.read (h:DkIs D m L):DkIs { D with rd:=upP D.rd } m L:=
 ⟨⟨h.ok.len,h.ok.one,h.ok.most,h.ok.free,h.ok.few,h.ok.rl,h.ok.wl,wrap64_rng _,h.ok.pt⟩,h.rl,h.wl,h.most,h.b,h.n,h.len,h.fr,h.nd,h.one⟩
end
def DkAt (σ0:ASt) (d:Nat) (m:Int) (n:Nat) (g:Nat->Option (List UInt8)) (σ:ASt):Prop:=∃ D L,DiskAt σ0 d D σ/\DkIs D m L/\L.length<=n/\g=dpg D L
section
variable {σ0 σ:ASt} {d p n:Nat} {m:Int} {g:Nat->Option (List UInt8)} {s t:List UInt8}
theorem DkAt.at (h:DkAt σ0 d m n g σ) {x:Nat} {r:Role} (hx:σ0 x=some r):σ x=some r:=by
 obtain ⟨D,L,h,_⟩:=h
 exact h.at hx
theorem DkAt.put (h:DkAt σ0 d m n g σ) {x:Nat} {q:Role} (r:Option Role) (hx:σ0 x=some q):DkAt (σ0.set x r) d m n g (σ.set x r):=by
 obtain ⟨D,L,h,h2⟩:=h
 exact ⟨D,L,h.put r hx,h2⟩
theorem DkAt.add (h:DkAt σ0 d m n g σ) {x:Nat} (r:Option Role) (hx:σ x=none):DkAt (σ0.set x r) d m n g (σ.set x r):=by
 obtain ⟨D,L,h,h2⟩:=h
 exact ⟨D,L,h.add r hx,h2⟩
theorem DkAt.gone (h:DkAt σ0 d m n g σ) {x:Nat} (hx:σ x=none):σ0 x=none:=by
 obtain ⟨D,L,h,h2⟩:=h
 exact h.gone hx
theorem DkAt.slen (h:DkAt σ0 d m n g σ) (hp:g p=some s):s.length=504:=by
 obtain ⟨D,L,_,h2,_,rfl⟩:=h
 exact h2.slen hp
theorem DkAt.rng (h:DkAt σ0 d m n g σ) (hp:g p=some s):1<=p/\p<60000:=by
 obtain ⟨D,L,_,h2,_,rfl⟩:=h
 obtain ⟨h3,_,h4,_⟩:=dpg_some hp
 have:=h2.ok.most
 omega
theorem ddhas_ok (h:DkAt σ0 d m n g σ) (hp:g p=some s):ACalls Tryz.prog 100 [.ptr d 0,.int .i64 p] σ fun v σ'=>v = .bool true/\σ'=σ:=by
 obtain ⟨D,L,⟨B,cB,rB,fv,F,I,cI,rI,h1⟩,h2,_,rfl⟩:=h
 obtain ⟨h3,h4,h5,_⟩:=dpg_some hp
 have:=h2.ok.most
 exact dkhas_ok h1.lm h2.ok.len (by omega) rfl h3 h5 h4
theorem ddread_ok (hck:CkT σ0) (h:DkAt σ0 d m n g σ) (hp:g p=some s):ACalls Tryz.prog 139 [.ptr d 0,.int .i64 p] σ fun v σ'=>v = .tuple [.str s,.int .i64 0]/\DkAt σ0 d m n g σ':=by
 obtain ⟨D,L,⟨B,cB,rB,fv,F,I,cI,rI,h1⟩,h2,hn,rfl⟩:=h
 obtain ⟨h3,h4,h5,_⟩:=dpg_some hp
 refine (dkread_g h1 hck h2.ok h2.rl h3 h5 h4).mono ?_
 rintro v σ' ⟨hv,hd⟩
 rw [h2.look hp] at hv
 exact ⟨hv,_,L,hd,h2.read,hn,rfl⟩
theorem ddwrite_ok (hck:CkT σ0) (h:DkAt σ0 d m n g σ) (hp:g p=some t) (hs:s.length=504):ACalls Tryz.prog 166 [.ptr d 0,.int .i64 p,.str s] σ fun v σ'=>v = .int .i64 0/\DkAt σ0 d m n (pset g p (some s)) σ':=by
 obtain ⟨D,L,⟨B,cB,rB,fv,F,I,cI,rI,h1⟩,h2,hn,rfl⟩:=h
 obtain ⟨h3,h4,h5,_⟩:=dpg_some hp
 obtain ⟨h6,h7⟩:=h2.wrote hp hs
 refine (dkwrite_g (h1.at hck) h1 hck h2.ok h2.wl h3 h5 h4 hs).mono ?_
 rintro v σ' ⟨hv,hd⟩
 exact ⟨hv,_,_,hd,h6,by rw [List.length_set];exact hn,h7.symm⟩
theorem ddtake_ok (hck:CkT σ0) (h:DkAt σ0 d m n g σ) (hroom:(n:Int)<m):ACalls Tryz.prog 24 [.ptr d 0] σ fun v σ'=>∃ p:Nat,v = .tuple [.int .i64 p,.int .i64 0]/\g p=none/\1<=p/\p<60000/\DkAt σ0 d m (n+1) (pset g p (some (List.replicate 504 0))) σ':=by
 obtain ⟨D,L,⟨B,cB,rB,fv,F,I,cI,rI,h1⟩,h2,hn,rfl⟩:=h
 have hm:=h2.ok.most
 have hmm:=h2.most
 have hnn:=h2.n
 rcases List.eq_nil_or_concat D.free with hf|⟨l,p,hf⟩
 ·obtain ⟨h3,h4,h5⟩:=h2.took hf (by omega)
  refine (dktake_ng (h1.at hck) h1 hck h2.ok hf (by rw [h2.most,h2.n];omega) h2.wl).mono ?_
  rintro v σ' ⟨hv,hd⟩
  have:=h2.ok.one
  exact ⟨L.length,by rw [hv,h2.n],h4,by omega,by omega,_,_,hd,h3,by rw [List.length_append];exact Nat.succ_le_succ hn,h5.symm⟩
 ·have hf:D.free=l ++ [p]:=by rw [hf,List.concat_eq_append]
  obtain ⟨h6,h7,h3,h4,h5⟩:=h2.retook hf
  refine (dktake_fg h1 hck h2.ok hf h2.wl).mono ?_
  rintro v σ' ⟨hv,hd⟩
  exact ⟨p,hv,h4,h6,by omega,_,_,hd,h3,by rw [List.length_set];omega,h5.symm⟩
theorem ddgive_ok (hck:CkT σ0) (h:DkAt σ0 d m n g σ) (hp:g p=some t):ACalls Tryz.prog 102 [.ptr d 0,.int .i64 p] σ fun v σ'=>v = .int .i64 0/\DkAt σ0 d m n (pset g p none) σ':=by
 obtain ⟨D,L,⟨B,cB,rB,fv,F,I,cI,rI,h1⟩,h2,hn,rfl⟩:=h
 obtain ⟨h3,h4,h5,_⟩:=dpg_some hp
 obtain ⟨h6,h7⟩:=h2.gave hp
 refine (dkgive_g h1 hck h2.ok h2.wl h3 h5 h4).mono ?_
 rintro v σ' ⟨hv,hd⟩
 exact ⟨hv,_,_,hd,h6,by rw [List.length_set];exact hn,h7.symm⟩
theorem ddnew_ok (hT:CkT σ) (pages:Int) (h1:2<=pages) (h2:pages<=60000):ACalls Tryz.prog 6 [.int .i64 pages] σ fun v σ'=>∃ d,v = .ptr d 0/\DkAt σ d pages 1 (fun _=>none) σ':=by
 refine (dknew_ok hT pages).mono ?_
 rintro v σ' ⟨d,hv,hD⟩
 have e:min (max pages 2) 60000=pages:=by omega
 rw [e] at hD
 refine ⟨d,hv,_,[headP (rawP pages)],hD,?_,Nat.le_refl 1,?_⟩
 ·have hs:=new_spD pages
  have ho:=newP_ok (m:=pages) ⟨h1,h2⟩
  rw [hs] at ho ⊢
  refine ⟨ho,rfl,rfl,rfl,rfl,rfl,?_,(fun p hp=>by cases hp),List.nodup_nil,(fun p hp=>by cases hp)⟩
  intro s hs
  rw [List.mem_singleton.1 hs,headP_len]
  decide
 ·funext p
  unfold dpg
  rw [if_neg]
  rintro ⟨h3,h4⟩
  have h5:(newP pages).isF = [false]:=rfl
  rw [h5] at h4
  have:=(List.getElem?_eq_some_iff.1 h4).1
  have:p<1:=this
  omega
end
end Go.A
namespace Go.A
open Go.Proofs
/-! Stores known less well,around a call. -/
def WkV (σ:ASt) (v:AV) (σ':ASt) (v':AV):Prop:=∀ w u,Sim σ w->Rep σ w v u->Sim σ' w/\Le σ w σ' w/\Rep σ' w v' u
theorem ACalls.post {P:Program} {σ:ASt} {f:FuncId} {args:List AV} {K K':AV->ASt->Prop} (h:ACalls P f args σ K) (hk:∀ v σ',K v σ'->∃ v2 σ2,WkV σ' v σ2 v2/\K' v2 σ2):ACalls P f args σ K':=by
 intro w vs hs hr
 refine (h w vs hs hr).mono ?_
 rintro e w' ⟨u,r,σ',he,hk1,hle,hs',hr'⟩
 obtain ⟨v2,σ2,h2,h3⟩:=hk _ _ hk1
 obtain ⟨g1,g2,g3⟩:=h2 w' u hs' hr'
 exact ⟨u,v2,σ2,he,h3,hle.trans g2,g1,g3⟩
theorem Fzs.len {σ σ':ASt}:∀ {xs ys:List AV},Fzs σ σ' xs ys->ys.length=xs.length
 | _,_,.nil=>rfl
 | _,_,.cons _ h=>by simp [h.len]
mutual
theorem Fz.repL {σ σ':ASt} {w:World} (hle:Le σ w σ' w) (hs:Sim σ w):∀ {a a':AV} {v:Value},Fz σ σ' a a'->Rep σ w a v->Rep σ' w a' v
 | _,_,_,.refl a,h=>h.mono hle
 | _,_,_,.any a,h => .any _
 | _,_,_,.deep a,h=>(h.mono hle).deep
 | _,_,_,.sl k xs,h=>by
   have h:=h.mono hle
   cases h with
   | slE A c=>exact .slE A c
   | slN=>exact .slE none 0
   | sl h1 h2 h3 h4 h5=>exact .sl h1 h2 h3 trivial h5
 | _,_,_,.ptr o hb hn,h=>by
   cases h
   obtain ⟨vs,h1,h2,_⟩:=hs.objCell hb
   refine .imm (At.mk' ((h1.mono hle).drop o) (fun j hj=>⟨hs.lt hb,.inl hn⟩) (fun j v hj=>h2 (o+j) v (by simpa using hj)))
 | _,_,_,.msl o n c s xs hb hn hl hc hz hf,h=>by
   cases h
   obtain ⟨vs,h1,h2,_⟩:=hs.objCell hb
   refine .sl (sz:=s) (Row.unflat hz ?_) hl hc trivial (hs.lt hb)
   rw [hf]
   refine (At.mk' ((h1.mono hle).drop o) (fun j hj=>⟨hs.lt hb,.inl hn⟩) (fun j v hj=>h2 (o+j) v (by simpa using hj))).take _
 | _,_,_,.agg hx,h=>by
   cases h with
   | agg h=>exact .agg (Fzs.repL hle hs hx h)
 | _,_,_,.tuple hx,h=>by
   cases h with
   | tuple h=>exact .tuple (Fzs.repL hle hs hx h)
theorem Fzs.repL {σ σ':ASt} {w:World} (hle:Le σ w σ' w) (hs:Sim σ w):∀ {xs ys:List AV} {vs:List Value},Fzs σ σ' xs ys->Reps σ w xs vs->Reps σ' w ys vs
 | _,_,_,.nil,.nil => .nil
 | _,_,_,.cons h1 h2,.cons h3 h4 => .cons (h1.repL hle hs h3) (h2.repL hle hs h4)
end
def GDrop (σ σ':ASt):Prop:=∀ b,σ' b=σ b\/σ' b=none\/∃ cs cs',σ b=some (.obj cs)/\σ' b=some (.obj cs')/\Fzs σ σ' cs cs'
theorem GDrop.le {σ σ':ASt} (h:GDrop σ σ') (w:World):Le σ w σ' w:=by
 refine ⟨rfl,rfl,rfl,Nat.le_refl _,fun b _ hb=>⟨?_,rfl⟩,fun b cs _ hb=>⟨?_,rfl⟩,fun b f _ hb=>⟨?_,rfl,fun _ _=>rfl⟩⟩
 ·rcases h b with h1|h1|⟨cs,_,h1,h2,_⟩
  ·rw [h1,hb]
  ·exact h1
  ·rw [hb] at h1;cases h1
 ·rcases h b with h1|h1|⟨cs',_,h1,h2,_⟩
  ·exact .inr (by rw [h1,hb])
  ·exact .inl h1
  ·rw [hb] at h1;cases h1
 ·rcases h b with h1|h1|⟨cs',_,h1,h2,_⟩
  ·exact .inr ⟨f,Nat.le_refl _,by rw [h1,hb]⟩
  ·exact .inl h1
  ·rw [hb] at h1;cases h1
theorem GDrop.sim {σ σ':ASt} (h:GDrop σ σ') {w:World} (hs:Sim σ w):Sim σ' w:=by
 intro b r hb
 rcases h b with h1|h1|⟨cs,cs',h1,h2,h3⟩
 ·rw [hb] at h1
  exact (hs b r h1.symm).keep (h.le w) rfl
 ·rw [h1] at hb;cases hb
 ·rw [h2] at hb
  injection hb with hb
  subst hb
  obtain ⟨c,T,fr,h4,h5,h6⟩:=hs b _ h1
  exact ⟨c,T,fr,h4,by rw [h3.len];exact h3.repL (h.le w) hs h5,h6⟩
theorem GDrop.wkv {σ σ':ASt} (h:GDrop σ σ') {v v':AV} (hz:Fz σ σ' v v'):WkV σ v σ' v':=fun w u hs hr=>⟨h.sim hs,h.le w,hz.repL (h.le w) hs hr⟩
theorem WkV.fz {σ σd:ASt} {v v':AV} (hd:Drop σ σd) (hz:Fz σ σd v v'):WkV σ v σd v':=fun w u hs hr=>⟨hd.sim hs,hd.le w,hz.rep hd.s hs hr⟩
def flatV:AV->Prop
 | .int _ _ | .bool _ | .str _=>True
 | .tuple vs=>∀ v∈vs,match v with
   | .int _ _ | .bool _ | .str _=>True
   | _=>False
 | _=>False
theorem flatV.rep {σ σ':ASt} {w w':World}:∀ {v:AV} {u:Value},flatV v->Rep σ w v u->Rep σ' w' v u
 | .int _ _,_,_,h=>by cases h;exact .int _ _
 | .bool _,_,_,h=>by cases h;exact .bool _
 | .str _,_,_,h=>by cases h;exact .str _
 | .tuple vs,_,hf,h=>by
   cases h with
   | tuple h=>
     refine .tuple ?_
     have key:∀ (vs:List AV) (us:List Value),(∀ v∈vs,match v with | .int _ _ | .bool _ | .str _=>True|_=>False)->Reps σ w vs us->Reps σ' w' vs us:=by
      intro vs
      induction vs with
      | nil=>intro us _ h;cases h;exact .nil
      | cons v vs ih=>
        intro us hf h
        cases h with
        | cons h1 h2=>
          refine .cons ?_ (ih _ (fun v hv=>hf v (List.mem_cons_of_mem _ hv)) h2)
          have:=hf v List.mem_cons_self
          cases v<;>simp at this<;>cases h1
          ·exact .bool _
          ·exact .int _ _
          ·exact .str _
     exact key vs _ hf h
theorem drop_no (σ:ASt):Drop σ noRole:=fun _ => .inr rfl
theorem ACalls.lend {P:Program} {σ:ASt} {f:FuncId} {args args':List AV} {K:AV->Prop} (ha:Fzs σ noRole args args') (h:ACalls P f args' noRole fun v σ'=>(K v/\flatV v)/\σ'=noRole) :
  ACalls P f args σ fun v σ'=>K v/\σ'=σ:=by
 intro w vs hs hr
 have hd:=drop_no σ
 refine (h w vs (hd.sim hs) (ha.rep hd.s hs hr)).mono ?_
 rintro e w' ⟨u,r,σ',he,⟨⟨hk,hf⟩,rfl⟩,hle,hs',hr'⟩
 have hh:∀ b,b<w.heap.size->w'.heap[b]? = w.heap[b]? := fun b hb=>(hle.keep b hb rfl).2
 have hle2:Le σ w σ w':=
  ⟨hle.os,hle.tape,hle.output,hle.size,fun b hb hn=>⟨hn,hh b hb⟩,fun b ds hb hn=>⟨.inr hn,hh b hb⟩,fun b q hb hn=>⟨.inr ⟨q,Nat.le_refl _,hn⟩,shape_of_heap_eq (hh b hb),fun o _=>cell_of_heap_eq (hh b hb) o⟩⟩
 exact ⟨u,r,σ,he,⟨hk,rfl⟩,hle2,fun b q hb=>(hs b q hb).keep hle2 (hh b (hs.lt hb)),hf.rep hr'⟩
theorem Pure.lend {P:Program} {σ:ASt} {f:FuncId} {args args':List AV} {r:AV} (h:Pure P f args' r) (hf:flatV r) (ha:Fzs σ noRole args args'):ACalls P f args σ fun v σ'=>v=r/\σ'=σ:=
 ACalls.lend (K:=fun v=>v=r) ha ((h noRole).mono fun v σ' ⟨h1,h2⟩=>⟨⟨h1,h1▸hf⟩,h2⟩)
end Go.A
namespace Go.A
open Go.Proofs
/-! 67: slices.Insert[[]uint64,uint64] -/
def c67_45:ACode := .seq (.ops [ oq 18 (.mv (.t 0)),oq 19 (.len (.t 18)),oq 8 (.mv (.t 19))]) (.seq (.seq (.ops [ oq 20 (.mv (.t 1)),oq 21 (.mv (.t 8)),oq 22 (.bin .eql (.t 20) (.t 21))]) (.cond (.t 22) (.seq (.ops [ oq 23 (.mv (.t 0)),oq 24 (.mv (.t 2)),oe 25 (.app 41 1 8 [(.int .u64 0)] (.t 23) (.t 24)),oq 6 (.mv (.t 25))]) .ret) .skip)) (.seq (.seq (.ops [ oq 26 (.mv (.t 8)),oq 27 (.mv (.t 7)),oq 28 (.bin .add (.t 26) (.t 27)),oq 29 (.mv (.t 0)),oq 30 (.capo (.t 29)),oq 31 (.bin .gtr (.t 28) (.t 30))]) (.cond (.t 31) (.seq (.ops [ oq 32 (.mv (.t 0)),oq 33 (.mv (.t 1)),oq 34 (.slto (false,1) (.t 32) (.t 33)),oq 35 (.mv (.t 8)),oq 36 (.mv (.t 7)),oq 37 (.bin .add (.t 35) (.t 36)),oq 38 (.mv (.t 1)),oq 39 (.bin .sub (.t 37) (.t 38)),oe 40 (.appm 1 8 [(.int .u64 0)] (.t 34) (.t 39)),oq 9 (.mv (.t 40))]) (.seq (.ops [ oq 41 (.mv (.t 9)),oq 42 (.mv (.t 1)),oq 43 (.slfrom (false,1) (.t 41) (.t 42)),oq 44 (.mv (.t 2)),oe 45 (.cps (.t 43) (.t 44))]) (.seq (.ops [ oq 46 (.mv (.t 9)),oq 47 (.mv (.t 1)),oq 48 (.mv (.t 7)),oq 49 (.bin .add (.t 47) (.t 48)),oq 50 (.slfrom (false,1) (.t 46) (.t 49)),oq 51 (.mv (.t 0)),oq 52 (.mv (.t 1)),oq 53 (.slfrom (false,1) (.t 51) (.t 52)),oe 54 (.cps (.t 50) (.t 53))]) (.seq (.ops [ oq 55 (.mv (.t 9)),oq 6 (.mv (.t 55))]) .ret)))) .skip)) (.seq (.ops [ oq 56 (.mv (.t 0)),oq 57 (.mv (.t 8)),oq 58 (.mv (.t 7)),oq 59 (.bin .add (.t 57) (.t 58)),oq 60 (.slto (false,1) (.t 56) (.t 59)),oq 0 (.mv (.t 60))]) (.seq (.seq (.ops [ oq 61 (.mv (.t 2)),oq 62 (.mv (.t 0)),oq 63 (.mv (.t 1)),oq 64 (.mv (.t 7)),oq 65 (.bin .add (.t 63) (.t 64)),oq 66 (.slfrom (false,1) (.t 62) (.t 65)),oe 67 (.ovl (.t 61) (.t 66)),oq 68 (.un .not (.t 67))]) (.cond (.t 68) (.seq (.ops [ oq 69 (.mv (.t 0)),oq 70 (.mv (.t 1)),oq 71 (.mv (.t 7)),oq 72 (.bin .add (.t 70) (.t 71)),oq 73 (.slfrom (false,1) (.t 69) (.t 72)),oq 74 (.mv (.t 0)),oq 75 (.mv (.t 1)),oq 76 (.slfrom (false,1) (.t 74) (.t 75)),oe 77 (.cps (.t 73) (.t 76))]) (.seq (.ops [ oq 78 (.mv (.t 0)),oq 79 (.mv (.t 1)),oq 80 (.slfrom (false,1) (.t 78) (.t 79)),oq 81 (.mv (.t 2)),oe 82 (.cps (.t 80) (.t 81))]) (.seq (.ops [ oq 83 (.mv (.t 0)),oq 6 (.mv (.t 83))]) .ret))) .skip)) (.seq (.ops [ oq 84 (.mv (.t 0)),oq 85 (.mv (.t 8)),oq 86 (.slfrom (false,1) (.t 84) (.t 85)),oq 87 (.mv (.t 2)),oe 88 (.cps (.t 86) (.t 87))]) (.seq (.ops [ oq 89 (.mv (.t 0)),oq 90 (.mv (.t 1)),oq 91 (.slfrom (false,1) (.t 89) (.t 90)),oq 92 (.mv (.t 7)),oe 93 (.call 132 [(.t 91),(.t 92)])]) (.seq (.ops [ oq 94 (.mv (.t 0)),oq 6 (.mv (.t 94))]) .ret)))))))
def c67_49:ACode := .seq (.ops [ oq 6 (.mv (.v (.sl .full [])))]) (.seq (.ops [ oq 10 (.mv (.t 0)),oq 11 (.mv (.t 1)),oq 12 (.slfrom (false,1) (.t 10) (.t 11))]) (.seq (.ops [ oq 13 (.mv (.t 2)),oq 14 (.len (.t 13)),oq 7 (.mv (.t 14))]) (.seq (.seq (.ops [ oq 15 (.mv (.t 7)),oq 16 (.bin .eql (.t 15) (.v (.int .i64 0)))]) (.cond (.t 16) (.seq (.ops [ oq 17 (.mv (.t 0)),oq 6 (.mv (.t 17))]) .ret) .skip)) c67_45)))
@[go_sem] def c67_45_wp:=wp_of c67_45.eq_1
@[go_sem] def c67_49_wp:=wp_of c67_49.eq_1
def c67:AFn:=⟨95,[.t 6],c67_49⟩
theorem c67_ok:compF Tryz.prog Tryz.f67=some c67:=by kernel_rfl
theorem a67 {args:List AV} {σ:ASt} {R:AV->ASt->Prop} (hl:args.length<=95) (h:c67_49.wp Tryz.prog (RetQ [.t 6] R) (init args) σ):ACalls Tryz.prog 67 args σ R:=acalls_of Tryz.func67 c67_ok hl h
/-! 128: slices.Insert[[]int,int] -/
end Go.A
namespace Go.A
open Go.Proofs
def kv (k:IntKind) (l:List Nat):List AV:=l.map fun (n:Nat)=>AV.int k (n:Int)
def insL (l:List Nat) (i v:Nat):List Nat:=l.take i++v::l.drop i
def delL (l:List Nat) (i:Nat):List Nat:=l.take i++l.drop (i+1)
theorem kv_len (k:IntKind) (l:List Nat):(kv k l).length=l.length:=List.length_map _
theorem kv_app (k:IntKind) (l m:List Nat):kv k (l++m)=kv k l++kv k m:=List.map_append
theorem kv_cons (k:IntKind) (n:Nat) (l:List Nat):kv k (n::l) = .int k n::kv k l:=rfl
theorem kv_split (k:IntKind) (l:List Nat) (i:Nat):kv k l=kv k (l.take i)++kv k (l.drop i):=by rw [<-kv_app,List.take_append_drop]
theorem kv_leaves (k:IntKind) (l:List Nat):leaves (kv k l)=true:=by
 induction l with
 | nil=>rfl
 | cons n l ih=>rw [kv_cons,leaves_cons,ih];rfl
theorem kv_cells {k:IntKind} {l:List Nat} {x:AV} (h:x∈kv k l):x.cells = [x]:=by
 obtain ⟨n,_,rfl⟩:=List.mem_map.1 h
 rfl
theorem kv_flat (k:IntKind) (l:List Nat):(kv k l).flatMap AV.cells=kv k l:=by
 induction l with
 | nil=>rfl
 | cons n l ih=>rw [kv_cons,List.flatMap_cons,ih];rfl
theorem kv_well (k:IntKind) (l:List Nat):wellSz 1 (kv k l)=true:=wellSz_map (f:=fun (n:Nat)=>AV.int k (n:Int)) (fun n=>⟨rfl,rfl⟩) l
theorem kv_get {k:IntKind} {l:List Nat} {i n:Nat} (h:l[i]? = some n):(kv k l)[i]? = some (.int k n):=by unfold kv;rw [List.getElem?_map,h];rfl
theorem kv_get' {k:IntKind} {l:List Nat} {R:List AV} {i n:Nat} (h:l[i]? = some n):(kv k l++R)[i]? = some (.int k n):=by
 rw [List.getElem?_append_left (by rw [kv_len];exact (List.getElem?_eq_some_iff.1 h).1)]
 exact kv_get h
theorem splice_mid {A B C ys:List AV} {o n:Nat} (ho:A.length=o) (hn:B.length=n):splice (A++B++C) o n ys=A++ys++C:=by
 subst ho hn
 unfold splice
 have e:(A++B++C).drop (A.length+B.length)=C:=by rw [<-List.length_append,List.drop_left]
 rw [e,List.append_assoc A B C,List.take_left]
theorem mid_get {A B C:List AV} {o n:Nat} (ho:A.length=o) (hn:B.length=n):((A++B++C).drop o).take n=B:=by
 subst ho hn
 rw [List.append_assoc,List.drop_left,List.take_left]
theorem slV_nat {b o n c lo hi:Nat} (h1:lo<=hi) (h2:hi<=c) (h3:lo<c):slV (false,1) (.msl b o n c) (lo:Int) (hi:Int)=some (.msl b (o+lo) (hi-lo) (c-lo)):=by
 rw [slV_msl (by omega) (by omega) (by omega) (by omega),Int.toNat_natCast,Int.toNat_natCast,Nat.mul_one]
theorem slV_any {b o n c lo hi:Nat} (h1:lo<=hi) (h2:hi<=c):∃ v,slV (false,1) (.msl b o n c) (lo:Int) (hi:Int)=some v:=by
 by_cases h3:lo<c
 ·exact ⟨_,slV_nat h1 h2 h3⟩
 ·exact ⟨_,slV_end (by omega) (by omega) (by omega) (by omega)⟩
theorem ret_own {σ:ASt} {X Y n c:Nat} {cs xs:List AV} (hY:Y=X\/σ Y=none) (hn:n=xs.length) (hc:n<=c) (h1:∀ x∈xs,x.cells = [x]) (hcs:cs.take n=xs) :
  RetC (some [.msl Y 0 n c]) (fun r σ'=>r = .sl .shr xs/\σ'=σ.set X none) (σ.set Y (some (.obj cs))):=by
 have hYn:(σ.set X none) Y=none:=by
  rcases hY with rfl|h
  ·exact ASt.set_same _ _ _
  ·by_cases hx:Y=X
   ·rw [hx,ASt.set_same]
   ·rw [ASt.set_ne hx];exact h
 have hfl:xs.flatMap AV.cells=xs:=by
  clear hn hcs
  induction xs with
  | nil=>rfl
  | cons x xs ih=>
    rw [List.flatMap_cons,h1 x List.mem_cons_self,ih fun y hy=>h1 y (List.mem_cons_of_mem _ hy)]
    rfl
 refine retC_by (r := .sl .shr xs) (σ':=σ.set X none) (fun x=>?_) (.msl (cs:=cs) 0 n c 1 xs (ASt.set_same _ _ _) hYn hn hc (fun x hx=>by rw [h1 x hx];rfl) (by rw [hfl,List.drop_zero,Nat.mul_one,hcs])) ⟨rfl,rfl⟩
 by_cases hx:x=X
 ·rw [hx,ASt.set_same];exact .inr rfl
 ·by_cases hxy:x=Y
  ·rw [hxy];exact .inr hYn
  ·rw [ASt.set_ne hx,ASt.set_ne hxy];exact .inl rfl
set_option maxHeartbeats 1000000 in
theorem xIns64_ok {σ:ASt} {X c:Nat} {R:List AV} {l:List Nat} {i v:Nat} (hX:σ X=some (.obj (kv .u64 l++R))) (hc:l.length<=c) (hR:c<=l.length+R.length) (hRv:leaves R=true) (hi:i<=l.length) (hl:l.length<=1000) :
  ACalls Tryz.prog 67 [.msl X 0 l.length c,.int .i64 i,.sl .lit [.int .u64 v]] σ fun r σ'=>r = .sl .shr (kv .u64 (insL l i v))/\σ'=σ.set X none:=by
 have hfin:kv .u64 (insL l i v)=kv .u64 (l.take i) ++ [.int .u64 v]++kv .u64 (l.drop i):=by
  unfold insL
  rw [kv_app,kv_cons,List.append_assoc]
  rfl
 have hcell:∀ x∈kv .u64 (insL l i v),x.cells = [x]:=fun x hx=>kv_cells hx
 have hlen:l.length+1=(kv .u64 (insL l i v)).length:=by rw [hfin];simp only [List.length_append,kv_len,List.length_take,List.length_drop,List.length_singleton];omega
 have hfl : [AV.int .u64 (v:Int)].flatMap AV.cells = [AV.int .u64 (v:Int)]:=rfl
 have h1l : [AV.int .u64 (v:Int)].length=1:=rfl
 obtain ⟨n,hn⟩:∃ n,n=l.length:=⟨_,rfl⟩
 obtain ⟨P,hP⟩:∃ P,P=kv .u64 (l.take i):=⟨_,rfl⟩
 obtain ⟨S,hS⟩:∃ S,S=kv .u64 (l.drop i):=⟨_,rfl⟩
 have hPl:P.length=i:=by rw [hP,kv_len,List.length_take];omega
 have hSl:S.length=n-i:=by rw [hS,kv_len,List.length_drop];omega
 have hSv:leaves S=true:=by rw [hS];exact kv_leaves _ _
 rw [kv_split .u64 l i,← hP,← hS] at hX
 rw [<-hP,← hS] at hfin
 rw [<-hn] at hc hR hi hl hlen ⊢
 generalize kv .u64 (insL l i v)=out at *
 clear hP hS hn
 subst hfin
 have hMl:(P++S++R).length=n+R.length:=by simp only [List.length_append];omega
 obtain ⟨sv,hsv⟩:=slV_any (b:=X) (o:=0) (n:=n) (c:=c) hi hc
 have e1:((0+1:Nat):Int)=1:=rfl
 refine a67 (by simp) ?_
 by_cases g:i=n
 ·subst g
  have hS0:S = []:=List.eq_nil_of_length_eq_zero (by omega)
  subst hS0
  rw [List.append_nil] at hX hlen hcell hMl ⊢
  have ht:(P++R).take i=P:=by rw [<-hPl,List.take_left]
  simp (disch:=first|assumption|omega|(simp only [List.length_append,List.length_cons,List.length_nil];omega)) only [go_sem,hsv,e1,hX]
  refine appM_by rfl rfl (by rw [h1l];omega) (by rw [h1l];omega) (by omega) (fun hroom=>⟨by rw [h1l] at hroom ⊢;omega,?_⟩) (fun hgrow b' c' hb' hc'=>?_)
  ·rw [h1l] at hroom ⊢
   have hs:splice (P++R) (0+i*1) (1*1) ([AV.int .u64 (v:Int)].flatMap AV.cells)=P ++ [AV.int .u64 (v:Int)]++R.drop 1:=by
    have e:P++R=P++R.take 1++R.drop 1:=by rw [List.append_assoc,List.take_append_drop]
    rw [e,hfl]
    exact splice_mid (by omega) (by rw [List.length_take];omega)
   rw [hs]
   simp (disch:=first|assumption|omega|(simp only [List.length_append,List.length_cons,List.length_nil];omega)) only [go_sem]
   exact ret_own (.inl rfl) hlen (by omega) hcell (by rw [hlen,List.take_left])
  ·rw [h1l] at hgrow hc' ⊢
   rw [hfl,List.drop_zero,Nat.mul_one,ht]
   unfold ownRow
   simp (disch:=first|assumption|omega|(simp only [List.length_append,List.length_cons,List.length_nil];omega)) only [go_sem]
   exact ret_own (.inr hb') hlen (by omega) hcell (by rw [hlen,List.take_left])
 ·have hin:i<n:=by omega
  have g':¬ (i:Int)=(n:Int):=by omega
  have hs1:slV (false,1) (.msl X 0 n c) (i:Int) (n:Int)=some (.msl X i (n-i) (c-i)):=by rw [slV_nat hi hc (by omega),Nat.zero_add]
  have hsrc0:((P++S++R).drop i).take (n-i)=S:=mid_get hPl hSl
  by_cases gc:n+1<=c
  ·have gc':¬ (c:Int)<(n:Int)+1:=by omega
   have hs2:slV (false,1) (.msl X 0 n c) 0 ((n:Int)+1)=some (.msl X 0 (n+1) c):=by
    have:=slV_nat (b:=X) (o:=0) (n:=n) (c:=c) (lo:=0) (hi:=n+1) (by omega) gc (by omega)
    exact this
   have hs3:slV (false,1) (.msl X 0 (n+1) c) ((i:Int)+1) ((n:Int)+1)=some (.msl X (i+1) (n-i) (c-(i+1))):=by
    have:=slV_nat (b:=X) (o:=0) (n:=n+1) (c:=c) (lo:=i+1) (hi:=n+1) (by omega) gc (by omega)
    rw [Nat.zero_add,show n+1-(i+1)=n-i from by omega] at this
    exact this
   have hs4:slV (false,1) (.msl X 0 (n+1) c) (i:Int) ((n:Int)+1)=some (.msl X i (n+1-i) (c-i)):=by
    have:=slV_nat (b:=X) (o:=0) (n:=n+1) (c:=c) (lo:=i) (hi:=n+1) (by omega) gc (by omega)
    rw [Nat.zero_add] at this
    exact this
   obtain ⟨r0,R',rfl⟩:∃ r0 R',R=r0::R':=by
    cases R with
    | nil=>simp only [List.length_nil] at hR;omega
    | cons r0 R'=>exact ⟨r0,R',rfl⟩
   have hr0:r0.leaf=true:=by rw [leaves_cons,Bool.and_eq_true] at hRv;exact hRv.1
   have hml:(P++S++r0::R').length=n+R'.length+1:=by rw [hMl];rfl
   have hRl:(r0::R').length=R'.length+1:=rfl
   rw [hRl] at hR
   have hsrc:((P++S++r0::R').drop i).take (n+1-i)=S ++ [r0]:=by
    have e:P++S++r0::R'=P++(S ++ [r0])++R':=by simp only [List.append_assoc,List.cons_append,List.nil_append]
    rw [e]
    exact mid_get hPl (by rw [List.length_append,hSl,List.length_singleton];omega)
   obtain ⟨Z,Y,hZY,hZl⟩:∃ Z Y,S ++ [r0]=Z++Y/\Z.length=1:=⟨(S ++ [r0]).take 1,(S ++ [r0]).drop 1,(List.take_append_drop _ _).symm,by rw [List.length_take,List.length_append,List.length_singleton];omega⟩
   have hYl:Y.length=n-i:=by
    have:=congrArg List.length hZY
    rw [List.length_append,List.length_append,hSl,hZl,List.length_singleton] at this
    omega
   have hsp1:splice (P++S++r0::R') (i+1) (n-i) S=P++Z++(S++R'):=by
    have e:P++S++r0::R'=(P++Z)++Y++R':=by
     have:P++S++r0::R'=P++(S ++ [r0])++R':=by simp only [List.append_assoc,List.cons_append,List.nil_append]
     rw [this,hZY]
     simp only [List.append_assoc]
    rw [e,splice_mid (by rw [List.length_append,hPl,hZl]) hYl,List.append_assoc]
   have hsp2:splice (P++Z++(S++R')) i 1 [AV.int .u64 (v:Int)]=P ++ [AV.int .u64 (v:Int)]++S++R':=by
    rw [splice_mid hPl hZl]
    simp only [List.append_assoc]
   have htk:(S ++ [r0]).take (n-i)=S:=by rw [<-hSl,List.take_left]
   have htl:(P++Z++(S++R')).length=n+R'.length+1:=by simp only [List.length_append,hPl,hZl,hSl];omega
   simp (disch:=first|assumption|omega|(simp only [List.length_append,List.length_cons,List.length_nil];omega)) only [go_sem,hsv,e1,g',gc',hs2,hs3]
   refine ovlC_by hX (by omega) ?_
   simp (disch:=first|assumption|omega|(simp only [List.length_append,List.length_cons,List.length_nil];omega)) only [go_sem,hs3,hs4]
   refine cpsC_by hX (srcOf_msl hX (by omega)) (by rw [hsrc,leaves_app,hSv,leaves_cons,hr0];rfl) (by omega) ?_
   rw [hsrc,htk,hSl,hsp1]
   simp (disch:=first|assumption|omega|(simp only [List.length_append,List.length_cons,List.length_nil];omega)) only [go_sem,hs4]
   refine cpsC_by (ASt.set_same _ _ _) srcOf_sl rfl (by omega) ?_
   have ht1 : [AV.int .u64 (v:Int)].take (n+1-i) = [AV.int .u64 (v:Int)]:=List.take_of_length_le (by rw [h1l];omega)
   rw [ht1,h1l,hsp2,ASt.set_set]
   simp (disch:=first|assumption|omega|(simp only [List.length_append,List.length_cons,List.length_nil];omega)) only [go_sem]
   exact ret_own (.inl rfl) hlen (by omega) hcell (by rw [hlen,List.take_left])
  ·have gc':(c:Int)<(n:Int)+1:=by omega
   have hs2:slV (false,1) (.msl X 0 n c) 0 (i:Int)=some (.msl X 0 i c):=by
    have:=slV_nat (b:=X) (o:=0) (n:=n) (c:=c) (lo:=0) (hi:=i) (by omega) (by omega) (by omega)
    exact this
   have e2:(n:Int)+1-(i:Int)=((n+1-i:Nat):Int):=by omega
   have hni:i+(n+1-i)=n+1:=by omega
   simp (disch:=first|assumption|omega|(simp only [List.length_append,List.length_cons,List.length_nil];omega)) only [go_sem,hsv,e1,g',gc',hs2,e2]
   refine appmC_by hX rfl (by omega) (by omega) (by omega) (fun h=>absurd h (by omega)) (fun _ b' c' hb' hc'=>?_)
   rw [hni] at hc' ⊢
   have hbX:b'≠X:=fun e=>by rw [e,hX] at hb';cases hb'
   have hXb:X≠b':=Ne.symm hbX
   have ht:((P++S++R).drop 0).take (i*1)=P:=by rw [List.drop_zero,Nat.mul_one,List.append_assoc,← hPl,List.take_left]
   rw [ht]
   obtain ⟨Z,hZ,hZl⟩:∃ Z,ownRow 1 [AV.int .u64 0] (P++(List.replicate (n+1-i) [AV.int .u64 0]).flatten) (n+1) c'=P++Z/\Z.length=c'-i:=by
    refine ⟨(List.replicate (n+1-i) [AV.int .u64 0]).flatten++(List.range ((c'-(n+1))*1)).map fun i => [AV.int .u64 0].getD (i % 1) .any,?_,?_⟩
    ·unfold ownRow
     rw [List.append_assoc]
    ·rw [List.length_append,List.length_map,List.length_range,List.flatten_replicate_singleton,List.length_replicate]
     omega
   rw [hZ]
   have hs3:slV (false,1) (.msl b' 0 (n+1) c') (i:Int) ((n:Int)+1)=some (.msl b' i (n+1-i) (c'-i)):=by
    have:=slV_nat (b:=b') (o:=0) (n:=n+1) (c:=c') (lo:=i) (hi:=n+1) (by omega) hc' (by omega)
    rw [Nat.zero_add] at this
    exact this
   have hs4:slV (false,1) (.msl b' 0 (n+1) c') ((i:Int)+1) ((n:Int)+1)=some (.msl b' (i+1) (n-i) (c'-(i+1))):=by
    have:=slV_nat (b:=b') (o:=0) (n:=n+1) (c:=c') (lo:=i+1) (hi:=n+1) (by omega) hc' (by omega)
    rw [Nat.zero_add,show n+1-(i+1)=n-i from by omega] at this
    exact this
   have hZe:P++Z=P++Z.take 1++Z.drop 1:=by rw [List.append_assoc,List.take_append_drop]
   have hZt:(Z.take 1).length=1:=by rw [List.length_take];omega
   have hsp1:splice (P++Z) i 1 [AV.int .u64 (v:Int)]=P ++ [AV.int .u64 (v:Int)]++Z.drop 1:=by rw [hZe];exact splice_mid hPl hZt
   have hZd:(Z.drop 1).length=c'-i-1:=by rw [List.length_drop];omega
   have hsp2:splice (P ++ [AV.int .u64 (v:Int)]++Z.drop 1) (i+1) (n-i) S=P ++ [AV.int .u64 (v:Int)]++S++(Z.drop 1).drop (n-i):=by
    have e:P ++ [AV.int .u64 (v:Int)]++Z.drop 1=P ++ [AV.int .u64 (v:Int)]++(Z.drop 1).take (n-i)++(Z.drop 1).drop (n-i):=by rw [List.append_assoc (P++_),List.take_append_drop]
    rw [e]
    exact splice_mid (by rw [List.length_append,hPl,h1l]) (by rw [List.length_take];omega)
   have htk:S.take (n-i)=S:=List.take_of_length_le (by omega)
   have hl1:(P++Z).length=c':=by rw [List.length_append];omega
   have hl2:(P ++ [AV.int .u64 (v:Int)]++Z.drop 1).length=c':=by simp only [List.length_append,hZd,h1l];omega
   simp (disch:=first|assumption|omega|(simp only [List.length_append,List.length_cons,List.length_nil];omega)) only [go_sem,hs3]
   refine cpsC_by (ASt.set_same _ _ _) srcOf_sl rfl (by omega) ?_
   have ht1 : [AV.int .u64 (v:Int)].take (n+1-i) = [AV.int .u64 (v:Int)]:=List.take_of_length_le (by rw [h1l];omega)
   rw [ht1,h1l,hsp1,ASt.set_set]
   simp (disch:=first|assumption|omega|(simp only [List.length_append,List.length_cons,List.length_nil];omega)) only [go_sem,hs4,hs1]
   refine cpsC_by (ys:=S) (ASt.set_same _ _ _) (by rw [srcOf_msl ((ASt.set_ne hXb).trans hX) (by omega),hsrc0]) hSv (by omega) ?_
   rw [htk,hSl,hsp2,ASt.set_set]
   simp (disch:=first|assumption|omega|(simp only [List.length_append,List.length_cons,List.length_nil];omega)) only [go_sem]
   exact ret_own (.inr hb') hlen (by omega) hcell (by rw [hlen,List.take_left])
end Go.A
namespace Go.A
open Go.Proofs
/-! 39: slices.BinarySearch[[]uint64,uint64] -/
def c39_14:ACode := .seq (.seq (.ops [ oq 13 (.mv (.t 7)),oq 14 (.mv (.t 8)),oq 15 (.bin .lss (.t 13) (.t 14))]) (.cond (.t 15) .skip (.exit 0))) (.block 1 (.seq (.ops [ oq 16 (.mv (.t 7)),oq 17 (.mv (.t 8)),oq 18 (.bin .add (.t 16) (.t 17)),oq 19 (.conv .u64 (.t 18)),oq 20 (.bin .shr (.t 19) (.v (.int .u64 1))),oq 21 (.conv .i64 (.t 20)),oq 9 (.mv (.t 21))]) (.seq (.ops [ oq 22 (.mv (.t 0)),oq 23 (.mv (.t 9)),oq 24 (.ia 1 (.t 22) (.t 23)),oq 25 (.ld none (.t 24)),oq 26 (.mv (.t 1)),oe 27 (.call 93 [(.t 25),(.t 26)])]) (.cond (.t 27) (.ops [ oq 28 (.mv (.t 9)),oq 29 (.bin .add (.t 28) (.v (.int .i64 1))),oq 7 (.mv (.t 29))]) (.ops [ oq 30 (.mv (.t 9)),oq 8 (.mv (.t 30))])))))
def c39_22:ACode := .seq (.ops [ oq 4 (.mv (.v (.int .i64 0))),oq 5 (.mv (.v (.bool false)))]) (.seq (.ops [ oq 10 (.mv (.t 0)),oq 11 (.len (.t 10)),oq 6 (.mv (.t 11))]) (.seq (.ops [ oq 12 (.mv (.t 6)),oq 7 (.mv (.v (.int .i64 0))),oq 8 (.mv (.t 12))]) (.seq (.block 0 (.loop c39_14)) (.seq (.ops [ oq 31 (.mv (.t 7)),oq 32 (.mv (.t 7)),oq 33 (.mv (.t 6)),oq 34 (.bin .lss (.t 32) (.t 33)),oq 35 (.mv (.t 34)),⟨some 36,some (35,true),.q (.mv (.t 0)),[]⟩,⟨some 37,some (35,true),.q (.mv (.t 7)),[]⟩,⟨some 38,some (35,true),.q (.ia 1 (.t 36) (.t 37)),[]⟩,⟨some 39,some (35,true),.q (.ld none (.t 38)),[]⟩,⟨some 40,some (35,true),.q (.mv (.t 1)),[]⟩,⟨some 41,some (35,true),.q (.bin .eql (.t 39) (.t 40)),[]⟩,⟨some 42,some (35,true),.q (.mv (.t 41)),[]⟩,⟨some 43,some (42,false),.q (.mv (.t 0)),[]⟩,⟨some 44,some (42,false),.q (.mv (.t 7)),[]⟩,⟨some 45,some (42,false),.q (.ia 1 (.t 43) (.t 44)),[]⟩,⟨some 46,some (42,false),.q (.ld none (.t 45)),[]⟩,⟨some 47,some (42,false),.e (.call 94 [(.t 46)]),[]⟩,⟨some 48,some (42,false),.q (.mv (.t 47)),[]⟩,⟨some 49,some (48,true),.q (.mv (.t 1)),[]⟩,⟨some 50,some (48,true),.e (.call 94 [(.t 49)]),[]⟩,⟨some 51,some (42,false),.q (.pick (.t 48) (.t 50) (.v (.bool false))),[]⟩,⟨some 52,some (35,true),.q (.pick (.t 42) (.v (.bool true)) (.t 51)),[]⟩,oq 53 (.pick (.t 35) (.t 52) (.v (.bool false))),oq 4 (.mv (.t 31)),oq 5 (.mv (.t 53))]) .ret))))
@[go_sem] def c39_14_wp:=wp_of c39_14.eq_1
@[go_sem] def c39_22_wp:=wp_of c39_22.eq_1
def c39:AFn:=⟨54,[.t 4,.t 5],c39_22⟩
theorem c39_ok:compF Tryz.prog Tryz.f39=some c39:=by kernel_rfl
theorem a39 {args:List AV} {σ:ASt} {R:AV->ASt->Prop} (hl:args.length<=54) (h:c39_22.wp Tryz.prog (RetQ [.t 4,.t 5] R) (init args) σ):ACalls Tryz.prog 39 args σ R:=acalls_of Tryz.func39 c39_ok hl h
/-! 54: slices.Index[[]uint64,uint64] -/
def c54_15:ACode := .seq (.ops [ oq 9 (.bin .lss (.t 8) (.t 7))]) (.seq (.cond (.t 9) .skip (.exit 0)) (.seq (.block 1 (.seq (.ops [ oq 10 (.mv (.t 8)),oq 5 (.mv (.t 10))]) (.seq (.ops [ oq 11 (.mv (.t 1)),oq 12 (.mv (.t 0)),oq 13 (.mv (.t 5)),oq 14 (.ia 1 (.t 12) (.t 13)),oq 15 (.ld none (.t 14)),oq 16 (.bin .eql (.t 11) (.t 15))]) (.cond (.t 16) (.seq (.ops [ oq 17 (.mv (.t 5)),oq 4 (.mv (.t 17))]) .ret) .skip)))) (.ops [ oq 18 (.bin .add (.t 8) (.v (.int .i64 1))),oq 8 (.mv (.t 18))])))
def c54_22:ACode := .seq (.ops [ oq 4 (.mv (.v (.int .i64 0)))]) (.seq (.seq (.ops [ oq 6 (.mv (.t 0)),oq 7 (.len (.t 6)),oq 8 (.mv (.v (.int .i64 0)))]) (.block 0 (.loop c54_15))) (.seq (.ops [ oq 4 (.mv (.v (.int .i64 (-1))))]) .ret))
@[go_sem] def c54_15_wp:=wp_of c54_15.eq_1
@[go_sem] def c54_22_wp:=wp_of c54_22.eq_1
def c54:AFn:=⟨19,[.t 4],c54_22⟩
theorem c54_ok:compF Tryz.prog Tryz.f54=some c54:=by kernel_rfl
theorem a54 {args:List AV} {σ:ASt} {R:AV->ASt->Prop} (hl:args.length<=19) (h:c54_22.wp Tryz.prog (RetQ [.t 4] R) (init args) σ):ACalls Tryz.prog 54 args σ R:=acalls_of Tryz.func54 c54_ok hl h
/-! 55: slices.Index[[]int,int] -/
def c55_15:ACode := .seq (.ops [ oq 9 (.bin .lss (.t 8) (.t 7))]) (.seq (.cond (.t 9) .skip (.exit 0)) (.seq (.block 1 (.seq (.ops [ oq 10 (.mv (.t 8)),oq 5 (.mv (.t 10))]) (.seq (.ops [ oq 11 (.mv (.t 1)),oq 12 (.mv (.t 0)),oq 13 (.mv (.t 5)),oq 14 (.ia 1 (.t 12) (.t 13)),oq 15 (.ld none (.t 14)),oq 16 (.bin .eql (.t 11) (.t 15))]) (.cond (.t 16) (.seq (.ops [ oq 17 (.mv (.t 5)),oq 4 (.mv (.t 17))]) .ret) .skip)))) (.ops [ oq 18 (.bin .add (.t 8) (.v (.int .i64 1))),oq 8 (.mv (.t 18))])))
def c55_22:ACode := .seq (.ops [ oq 4 (.mv (.v (.int .i64 0)))]) (.seq (.seq (.ops [ oq 6 (.mv (.t 0)),oq 7 (.len (.t 6)),oq 8 (.mv (.v (.int .i64 0)))]) (.block 0 (.loop c55_15))) (.seq (.ops [ oq 4 (.mv (.v (.int .i64 (-1))))]) .ret))
@[go_sem] def c55_15_wp:=wp_of c55_15.eq_1
@[go_sem] def c55_22_wp:=wp_of c55_22.eq_1
def c55:AFn:=⟨19,[.t 4],c55_22⟩
theorem c55_ok:compF Tryz.prog Tryz.f55=some c55:=by kernel_rfl
theorem a55 {args:List AV} {σ:ASt} {R:AV->ASt->Prop} (hl:args.length<=19) (h:c55_22.wp Tryz.prog (RetQ [.t 4] R) (init args) σ):ACalls Tryz.prog 55 args σ R:=acalls_of Tryz.func55 c55_ok hl h
/-! 57: slices.Delete[[]uint64,uint64] -/
def c57_17:ACode := .seq (.ops [ oq 6 (.mv (.v (.sl .full [])))]) (.seq (.ops [ oq 8 (.mv (.t 0)),oq 9 (.mv (.t 1)),oq 10 (.mv (.t 2)),oq 11 (.mv (.t 0)),oq 12 (.len (.t 11)),oq 13 (.sl3 1 (.t 8) (.t 9) (.t 10) (.t 12))]) (.seq (.seq (.ops [ oq 14 (.mv (.t 1)),oq 15 (.mv (.t 2)),oq 16 (.bin .eql (.t 14) (.t 15))]) (.cond (.t 16) (.seq (.ops [ oq 17 (.mv (.t 0)),oq 6 (.mv (.t 17))]) .ret) .skip)) (.seq (.ops [ oq 18 (.mv (.t 0)),oq 19 (.len (.t 18)),oq 7 (.mv (.t 19))]) (.seq (.ops [ oq 20 (.mv (.t 0)),oq 21 (.mv (.t 1)),oq 22 (.slto (false,1) (.t 20) (.t 21)),oq 23 (.mv (.t 0)),oq 24 (.mv (.t 2)),oq 25 (.slfrom (false,1) (.t 23) (.t 24)),oe 26 (.app 41 1 8 [(.int .u64 0)] (.t 22) (.t 25)),oq 0 (.mv (.t 26))]) (.seq (.ops [ oq 27 (.mv (.t 0)),oq 28 (.mv (.t 0)),oq 29 (.len (.t 28)),oq 30 (.mv (.t 7)),oq 31 (.sls (false,1) (.t 27) (.t 29) (.t 30)),oz (.clr [(.int .u64 0)] (.t 31))]) (.seq (.ops [ oq 32 (.mv (.t 0)),oq 6 (.mv (.t 32))]) .ret))))))
@[go_sem] def c57_17_wp:=wp_of c57_17.eq_1
def c57:AFn:=⟨33,[.t 6],c57_17⟩
theorem c57_ok:compF Tryz.prog Tryz.f57=some c57:=by kernel_rfl
theorem a57 {args:List AV} {σ:ASt} {R:AV->ASt->Prop} (hl:args.length<=33) (h:c57_17.wp Tryz.prog (RetQ [.t 6] R) (init args) σ):ACalls Tryz.prog 57 args σ R:=acalls_of Tryz.func57 c57_ok hl h
/-! 93: cmp.Less[uint64] -/
def c93_3:ACode := .seq (.ops [ oq 4 (.mv (.v (.bool false)))]) (.seq (.ops [ oq 5 (.mv (.t 0)),oe 6 (.call 148 [(.t 5)]),oq 7 (.mv (.t 6)),⟨some 8,some (7,true),.q (.mv (.t 1)),[]⟩,⟨some 9,some (7,true),.e (.call 148 [(.t 8)]),[]⟩,⟨some 10,some (7,true),.q (.un .not (.t 9)),[]⟩,oq 11 (.pick (.t 7) (.t 10) (.v (.bool false))),oq 12 (.mv (.t 11)),⟨some 13,some (12,false),.q (.mv (.t 0)),[]⟩,⟨some 14,some (12,false),.q (.mv (.t 1)),[]⟩,⟨some 15,some (12,false),.q (.bin .lss (.t 13) (.t 14)),[]⟩,oq 16 (.pick (.t 12) (.v (.bool true)) (.t 15)),oq 4 (.mv (.t 16))]) .ret)
@[go_sem] def c93_3_wp:=wp_of c93_3.eq_1
def c93:AFn:=⟨17,[.t 4],c93_3⟩
theorem c93_ok:compF Tryz.prog Tryz.f93=some c93:=by kernel_rfl
theorem a93 {args:List AV} {σ:ASt} {R:AV->ASt->Prop} (hl:args.length<=17) (h:c93_3.wp Tryz.prog (RetQ [.t 4] R) (init args) σ):ACalls Tryz.prog 93 args σ R:=acalls_of Tryz.func93 c93_ok hl h
/-! 94: slices.isNaN[uint64] -/
def c94_3:ACode := .seq (.ops [ oq 2 (.mv (.v (.bool false)))]) (.seq (.ops [ oq 3 (.mv (.t 0)),oq 4 (.mv (.t 0)),oq 5 (.bin .neq (.t 3) (.t 4)),oq 2 (.mv (.t 5))]) .ret)
@[go_sem] def c94_3_wp:=wp_of c94_3.eq_1
def c94:AFn:=⟨6,[.t 2],c94_3⟩
theorem c94_ok:compF Tryz.prog Tryz.f94=some c94:=by kernel_rfl
theorem a94 {args:List AV} {σ:ASt} {R:AV->ASt->Prop} (hl:args.length<=6) (h:c94_3.wp Tryz.prog (RetQ [.t 2] R) (init args) σ):ACalls Tryz.prog 94 args σ R:=acalls_of Tryz.func94 c94_ok hl h
/-! 148: cmp.isNaN[uint64] -/
def c148_3:ACode := .seq (.ops [ oq 2 (.mv (.v (.bool false)))]) (.seq (.ops [ oq 3 (.mv (.t 0)),oq 4 (.mv (.t 0)),oq 5 (.bin .neq (.t 3) (.t 4)),oq 2 (.mv (.t 5))]) .ret)
@[go_sem] def c148_3_wp:=wp_of c148_3.eq_1
def c148:AFn:=⟨6,[.t 2],c148_3⟩
theorem c148_ok:compF Tryz.prog Tryz.f148=some c148:=by kernel_rfl
theorem a148 {args:List AV} {σ:ASt} {R:AV->ASt->Prop} (hl:args.length<=6) (h:c148_3.wp Tryz.prog (RetQ [.t 2] R) (init args) σ):ACalls Tryz.prog 148 args σ R:=acalls_of Tryz.func148 c148_ok hl h
/-! 151: slices.Delete[[]int,int] -/
/-! 153: slices.Clone[[]uint64,uint64] -/
/-! 154: slices.Clone[[]int,int] -/
end Go.A
namespace Go.A
open Go.Proofs
def lowI (l:List Nat) (t:Nat):Nat:=(l.takeWhile fun x=>decide (x<t)).length
theorem lowI_cons (x:Nat) (l:List Nat) (t:Nat):lowI (x::l) t=if x<t then lowI l t+1 else 0:=by
 unfold lowI
 rw [List.takeWhile_cons]
 by_cases h:x<t
 ·simp [h]
 ·simp [h]
theorem lowI_le:∀ (l:List Nat) (t:Nat),lowI l t<=l.length
 | [],_=>Nat.le_refl 0
 | x::l,t=>by
   rw [lowI_cons,List.length_cons]
   have:=lowI_le l t
   split<;>omega
theorem lowI_lt:∀ {l:List Nat} {t h x:Nat},l.Pairwise (· < ·)->l[h]? = some x->x<t->h<lowI l t
 | [],t,h,x,hp,hh,hx=>by simp at hh
 | y::l,t,0,x,hp,hh,hx=>by
   simp at hh;subst hh
   rw [lowI_cons,if_pos hx]
   omega
 | y::l,t,h+1,x,hp,hh,hx=>by
   have hh:l[h]? = some x:=hh
   rw [List.pairwise_cons] at hp
   have hy:=hp.1 x (List.mem_of_getElem? hh)
   rw [lowI_cons,if_pos (by omega)]
   have:=lowI_lt hp.2 hh hx
   omega
theorem lowI_ge:∀ {l:List Nat} {t h x:Nat},l.Pairwise (· < ·)->l[h]? = some x->t<=x->lowI l t<=h
 | [],t,h,x,hp,hh,hx=>by simp at hh
 | y::l,t,0,x,hp,hh,hx=>by
   simp at hh;subst hh
   rw [lowI_cons,if_neg (by omega)]
   exact Nat.le_refl 0
 | y::l,t,h+1,x,hp,hh,hx=>by
   have hh:l[h]? = some x:=hh
   rw [List.pairwise_cons] at hp
   rw [lowI_cons]
   split
   ·have:=lowI_ge hp.2 hh hx
    omega
   ·exact Nat.zero_le _
theorem isnan64_ok (x:Int):Pure Tryz.prog 94 [.int .u64 x] (.bool false):=by
 intro σ
 refine a94 (by simp) ?_
 simp (disch:=first|assumption|omega|(simp only [List.length_append,List.length_cons,List.length_nil];omega)) only [go_sem,eq_self]
 exact retC_by (.refl _) (.refl _) ⟨rfl,rfl⟩
theorem isnanc64_ok (x:Int):Pure Tryz.prog 148 [.int .u64 x] (.bool false):=by
 intro σ
 refine a148 (by simp) ?_
 simp (disch:=first|assumption|omega|(simp only [List.length_append,List.length_cons,List.length_nil];omega)) only [go_sem,eq_self]
 exact retC_by (.refl _) (.refl _) ⟨rfl,rfl⟩
theorem cmpless64_ok (x y:Int):Pure Tryz.prog 93 [.int .u64 x,.int .u64 y] (.bool (decide (x<y))):=by
 intro σ
 refine a93 (by simp) ?_
 simp (disch:=first|assumption|omega|(simp only [List.length_append,List.length_cons,List.length_nil];omega)) only [go_sem]
 refine (isnanc64_ok x).use ?_
 simp (disch:=first|assumption|omega|(simp only [List.length_append,List.length_cons,List.length_nil];omega)) only [go_sem]
 exact retC_by (.refl _) (.refl _) ⟨rfl,rfl⟩
theorem xBin64_ok (k:SK) {l:List Nat} {t:Nat} (hl:l.length<=100000) (hp:l.Pairwise (· < ·)):Pure Tryz.prog 39 [.sl k (kv .u64 l),.int .u64 t] (.tuple [.int .i64 (lowI l t),.bool (decide (l[lowI l t]? = some t))]):=by
 intro σ
 have hle:=lowI_le l t
 have bits:IntKind.bits .u64=64:=rfl
 have e1:(1:Int).toNat=1:=rfl
 have hkl:=kv_len .u64 l
 have hkg:=fun (i n:Nat) (h:l[i]? = some n)=>kv_get (k := .u64) h
 generalize hK:kv .u64 l=KV at *
 refine a39 (by simp) ?_
 simp (disch:=first|assumption|omega|(simp only [List.length_append,List.length_cons,List.length_nil];omega)) only [go_sem,hkl]
 refine wp_loop_on (fun (p:Nat×Nat) a1 s2=>(p.1<=lowI l t/\lowI l t<=p.2/\p.2<=l.length)/\(a1 0 = .sl k KV/\a1 1 = .int .u64 t/\a1 6 = .int .i64 l.length/\a1 7 = .int .i64 p.1/\a1 8 = .int .i64 p.2)/\s2=σ) (fun p=>p.2-p.1) (0,l.length) ⟨⟨Nat.zero_le _,hle,Nat.le_refl _⟩,?_,rfl⟩ ?_
 ·simp (disch:=first|assumption|omega|(simp only [List.length_append,List.length_cons,List.length_nil];omega)) only [go_sem]
 rintro ⟨i,j⟩ a1 s2 ⟨⟨hi,hj,hjn⟩,hf,rfl⟩
 dsimp only at hi hj hjn hf
 by_cases hlt:i<j
 ·have hlt':(i:Int)<(j:Int):=by omega
  obtain ⟨h,hh⟩:∃ h,h=(i+j) / 2:=⟨_,rfl⟩
  have hhn:h<l.length:=by omega
  have e2:((i:Int)+(j:Int)) / 2=(h:Int):=by omega
  obtain ⟨x,hx⟩:∃ x,l[h]? = some x:=⟨_,List.getElem?_eq_getElem hhn⟩
  have hg:=hkg h x hx
  simp (disch:=first|assumption|omega|(simp only [List.length_append,List.length_cons,List.length_nil];omega)) only [go_sem,hf,hlt',bits,e1,e2,hg,Int.toNat_natCast]
  refine (cmpless64_ok _ _).use ?_
  by_cases hc:x<t
  ·have hc':(x:Int)<(t:Int):=by omega
   have:=lowI_lt hp hx hc
   simp (disch:=first|assumption|omega|(simp only [List.length_append,List.length_cons,List.length_nil];omega)) only [go_sem,hf,hc']
   refine ⟨(h+1,j),by dsimp only;omega,⟨by dsimp only;omega,hj,hjn⟩,?_,rfl⟩
   simp (disch:=first|assumption|omega|(simp only [List.length_append,List.length_cons,List.length_nil];omega)) only [go_sem,hf]
  ·have hc':¬ (x:Int)<(t:Int):=by omega
   have:=lowI_ge (t:=t) hp hx (by omega)
   simp (disch:=first|assumption|omega|(simp only [List.length_append,List.length_cons,List.length_nil];omega)) only [go_sem,hf,hc']
   refine ⟨(i,h),by dsimp only;omega,⟨hi,this,by dsimp only;omega⟩,?_,rfl⟩
   simp (disch:=first|assumption|omega|(simp only [List.length_append,List.length_cons,List.length_nil];omega)) only [go_sem,hf]
 ·have hlt':¬ (i:Int)<(j:Int):=by omega
  obtain rfl:i=lowI l t:=by omega
  generalize lowI l t=i at *
  by_cases hin:i<l.length
  ·have hin':(i:Int)<(l.length:Int):=by omega
   obtain ⟨x,hx⟩:∃ x,l[i]? = some x:=⟨_,List.getElem?_eq_getElem hin⟩
   have hg:=hkg i x hx
   rw [hx]
   by_cases hc:x=t
   ·subst hc
    simp (disch:=first|assumption|omega|(simp only [List.length_append,List.length_cons,List.length_nil];omega)) only [go_sem,hf,hlt',hin',hg,Int.toNat_natCast,eq_self]
    exact retC_by (.refl _) (.refl _) ⟨rfl,rfl⟩
   ·have hc':¬ (x:Int)=(t:Int):=by omega
    have hd:decide (some x=some t)=false:=decide_eq_false (by intro h;exact hc (Option.some.inj h))
    rw [hd]
    simp (disch:=first|assumption|omega|(simp only [List.length_append,List.length_cons,List.length_nil];omega)) only [go_sem,hf,hlt',hin',hg,Int.toNat_natCast,hc']
    refine (isnan64_ok _).use ?_
    simp (disch:=first|assumption|omega|(simp only [List.length_append,List.length_cons,List.length_nil];omega)) only [go_sem,hf,hlt',hin',hg,Int.toNat_natCast,hc']
    exact retC_by (.refl _) (.refl _) ⟨rfl,rfl⟩
  ·have hin':¬ (i:Int)<(l.length:Int):=by omega
   rw [List.getElem?_eq_none (by omega)]
   have hd:decide ((none:Option Nat)=some t)=false:=decide_eq_false (by intro h;cases h)
   rw [hd]
   simp (disch:=first|assumption|omega|(simp only [List.length_append,List.length_cons,List.length_nil];omega)) only [go_sem,hf,hlt',hin']
   exact retC_by (.refl _) (.refl _) ⟨rfl,rfl⟩
theorem ret_new {σ:ASt} {Y n c:Nat} {cs xs:List AV} (hY:σ Y=none) (hn:n=xs.length) (hc:n<=c) (h1:∀ x∈xs,x.cells = [x]) (hcs:cs.take n=xs) :
  RetC (some [.msl Y 0 n c]) (fun r σ'=>r = .sl .shr xs/\σ'=σ) (σ.set Y (some (.obj cs))):=by
 have hfl:xs.flatMap AV.cells=xs:=by
  clear hn hcs
  induction xs with
  | nil=>rfl
  | cons x xs ih=>
    rw [List.flatMap_cons,h1 x List.mem_cons_self,ih fun y hy=>h1 y (List.mem_cons_of_mem _ hy)]
    rfl
 exact retC_by (r := .sl .shr xs) (σ':=σ) (Drop.set hY) (.msl (cs:=cs) 0 n c 1 xs (ASt.set_same _ _ _) hY hn hc (fun x hx=>by rw [h1 x hx];rfl) (by rw [hfl,List.drop_zero,Nat.mul_one,hcs])) ⟨rfl,rfl⟩
theorem xIns64_nil {σ:ASt} {v:Nat}:ACalls Tryz.prog 67 [.sl .full [],.int .i64 0,.sl .lit [.int .u64 v]] σ fun r σ'=>r = .sl .shr (kv .u64 [v])/\σ'=σ:=by
 have e1:((0+1:Nat):Int)=1:=rfl
 have h1l : [AV.int .u64 (v:Int)].length=1:=rfl
 refine a67 (by simp) ?_
 simp (disch:=first|assumption|omega|(simp only [List.length_append,List.length_cons,List.length_nil];omega)) only [go_sem,e1]
 refine appO_by rfl rfl rfl (by rw [h1l];decide) (by rw [h1l];decide) (by rw [h1l];decide) fun b c hb hc=>?_
 simp (disch:=first|assumption|omega|(simp only [List.length_append,List.length_cons,List.length_nil];omega)) only [go_sem]
 exact ret_new hb rfl hc (fun x hx=>by rw [List.mem_singleton.1 hx];rfl) rfl
set_option maxHeartbeats 1000000 in
theorem xDel64_ok {σ:ASt} {X c:Nat} {R:List AV} {l:List Nat} {i:Nat} (hX:σ X=some (.obj (kv .u64 l++R))) (hc:l.length<=c) (hi:i<l.length) (hl:l.length<=1000) :
  ACalls Tryz.prog 57 [.msl X 0 l.length c,.int .i64 i,.int .i64 ((i:Int)+1)] σ fun r σ'=>r = .sl .shr (kv .u64 (delL l i))/\σ'=σ.set X none:=by
 have hfin:kv .u64 (delL l i)=kv .u64 (l.take i)++kv .u64 (l.drop (i+1)):=by
  unfold delL
  rw [kv_app]
 have hcell:∀ x∈kv .u64 (delL l i),x.cells = [x]:=fun x hx=>kv_cells hx
 obtain ⟨n,hn⟩:∃ n,n=l.length:=⟨_,rfl⟩
 obtain ⟨P,hP⟩:∃ P,P=kv .u64 (l.take i):=⟨_,rfl⟩
 obtain ⟨S,hS⟩:∃ S,S=kv .u64 (l.drop (i+1)):=⟨_,rfl⟩
 obtain ⟨d0, hd0⟩ : ∃ d0, d0 = AV.int .u64 ((l[i]'hi : Nat) : Int) := ⟨_, rfl⟩
 have hPl:P.length=i:=by rw [hP,kv_len,List.length_take];omega
 have hSl:S.length=n-(i+1):=by rw [hS,kv_len,List.length_drop];omega
 have hSv:leaves S=true:=by rw [hS];exact kv_leaves _ _
 have hsplit:kv .u64 l=P++(d0::S):=by
  rw [hP,hS,hd0,← kv_cons,← kv_app]
  congr 1
  rw [List.getElem_cons_drop,List.take_append_drop]
 rw [hsplit] at hX
 rw [<-hP,← hS] at hfin
 rw [<-hn] at hc hi hl ⊢
 generalize kv .u64 (delL l i)=out at *
 clear hP hS hn hd0 hsplit
 subst hfin
 have hMl:(P++d0::S++R).length=n+R.length:=by simp only [List.length_append,List.length_cons];omega
 have g':¬ (i:Int)=(i:Int)+1:=by omega
 have e1:((i:Int)+1).toNat=i+1:=by omega
 obtain ⟨s3,hs3⟩:∃ s3,sl3V 1 (.msl X 0 n c) (i:Int) ((i:Int)+1) (n:Int)=some s3:=⟨_,sl3V_msl (by omega) (by omega) (by omega) (by omega) (by omega)⟩
 have hs1:slV (false,1) (.msl X 0 n c) 0 (i:Int)=some (.msl X 0 i c):=by
  have:=slV_nat (b:=X) (o:=0) (n:=n) (c:=c) (lo:=0) (hi:=i) (by omega) (by omega) (by omega)
  exact this
 obtain ⟨o2,c2,hs2,hsrc⟩:∃ o2 c2,slV (false,1) (.msl X 0 n c) ((i:Int)+1) (n:Int)=some (.msl X o2 (n-(i+1)) c2)/\srcOf σ (.msl X o2 (n-(i+1)) c2)=some S:=by
  by_cases hic:i+1<c
  ·refine ⟨i+1,c-(i+1),?_,?_⟩
   ·have:=slV_nat (b:=X) (o:=0) (n:=n) (c:=c) (lo:=i+1) (hi:=n) (by omega) hc (by omega)
    rw [Nat.zero_add] at this
    exact this
   ·rw [srcOf_msl hX (by omega)]
    congr 1
    have e:P++d0::S++R=(P ++ [d0])++S++R:=by simp only [List.append_assoc,List.cons_append,List.nil_append]
    rw [e]
    exact mid_get (by rw [List.length_append,hPl];rfl) hSl
  ·have hnc:n-(i+1)=0:=by omega
   refine ⟨0,0,?_,?_⟩
   ·rw [slV_end (by omega) (by omega) (by omega) (by omega),e1,Int.toNat_natCast,hnc]
    have:c-(i+1)=0:=by omega
    rw [this]
   ·rw [hnc,srcOf_msl hX (by omega)]
    have hS0:S = []:=List.eq_nil_of_length_eq_zero (by omega)
    rw [hS0]
    rfl
 obtain ⟨A1,y,hA,hAl⟩:∃ A1 y,d0::S=A1 ++ [y]/\A1.length=n-(i+1):=by
  obtain ⟨y,hy⟩:=List.length_eq_one_iff.1 (show ((d0::S).drop (n-(i+1))).length=1 by rw [List.length_drop,List.length_cons];omega)
  refine ⟨(d0::S).take (n-(i+1)),y,?_,by rw [List.length_take,List.length_cons];omega⟩
  rw [<-hy,List.take_append_drop]
 have hsp1:splice (P++d0::S++R) (0+i) (n-(i+1)) S=(P++S) ++ [y]++R:=by
  have e:P++d0::S++R=P++A1++([y]++R):=by rw [hA];simp only [List.append_assoc]
  rw [e,splice_mid (by omega) hAl]
  simp only [List.append_assoc]
 have hPS:(P++S).length=n-1:=by rw [List.length_append];omega
 have hsp2:splice ((P++S) ++ [y]++R) (n-1) 1 [AV.int .u64 0]=(P++S) ++ [AV.int .u64 0]++R:=splice_mid hPS rfl
 have hin:i+(n-(i+1))=n-1:=by omega
 have hs4:slV (false,1) (.msl X 0 (n-1) c) (((n-1:Nat)):Int) (n:Int)=some (.msl X (n-1) 1 (c-(n-1))):=by
  have:=slV_nat (b:=X) (o:=0) (n:=n-1) (c:=c) (lo:=n-1) (hi:=n) (by omega) hc (by omega)
  rw [Nat.zero_add,show n-(n-1)=1 from by omega] at this
  exact this
 refine a57 (by simp) ?_
 simp (disch:=first|assumption|omega|(simp only [List.length_append,List.length_cons,List.length_nil];omega)) only [go_sem,hs3,g',hs1,hs2]
 refine appN_by hX hsrc hSv (by omega) (by omega) (by omega) (fun hroom=>⟨by omega,?_⟩) (fun hgrow=>absurd hgrow (by omega))
 rw [hsp1,hin]
 simp (disch:=first|assumption|omega|(simp only [List.length_append,List.length_cons,List.length_nil];omega)) only [go_sem,hs4]
 refine clrC_by (ASt.set_same _ _ _) rfl (by simp only [List.length_append,List.length_cons,List.length_nil] at *;omega) ?_
 have hr1:(List.replicate 1 [AV.int .u64 0]).flatten = [AV.int .u64 0]:=rfl
 have hl1:1 * [AV.int .u64 0].length=1:=rfl
 rw [hr1,hl1,hsp2,ASt.set_set]
 simp (disch:=first|assumption|omega|(simp only [List.length_append,List.length_cons,List.length_nil];omega)) only [go_sem]
 exact ret_own (.inl rfl) hPS.symm (by omega) hcell (by rw [List.append_assoc,← hPS,List.take_left])
theorem xIdx64_ok (k:SK) {l:List Nat} {i v:Nat} (hl:l.length<=100000) (hi:l[i]? = some v) (hn:∀ j,j<i->l[j]? ≠ some v):Pure Tryz.prog 54 [.sl k (kv .u64 l),.int .u64 v] (.int .i64 i):=by
 intro σ
 have hil:i<l.length:=(List.getElem?_eq_some_iff.1 hi).1
 have hkl:=kv_len .u64 l
 have hkg:=fun (i n:Nat) (h:l[i]? = some n)=>kv_get (k := .u64) h
 generalize kv .u64 l=KV at *
 refine a54 (by simp) ?_
 simp (disch:=first|assumption|omega|(simp only [List.length_append,List.length_cons,List.length_nil];omega)) only [go_sem,hkl]
 refine wp_loop_on (fun (j:Nat) a1 s2=>j<=i/\(a1 0 = .sl k KV/\a1 1 = .int .u64 v/\a1 7 = .int .i64 l.length/\a1 8 = .int .i64 j)/\s2=σ) (fun j=>i+1-j) 0 ⟨Nat.zero_le _,?_,rfl⟩ ?_
 ·simp (disch:=first|assumption|omega|(simp only [List.length_append,List.length_cons,List.length_nil];omega)) only [go_sem]
 rintro j a1 s2 ⟨hj,hf,rfl⟩
 have hlt:(j:Int)<(l.length:Int):=by omega
 obtain ⟨x,hx⟩:∃ x,l[j]? = some x:=⟨_,List.getElem?_eq_getElem (by omega)⟩
 have hg:=hkg j x hx
 by_cases hc:v=x
 ·subst hc
  obtain rfl:j=i:=by
   refine Classical.byContradiction fun he=>?_
   exact hn j (by omega) hx
  simp (disch:=first|assumption|omega|(simp only [List.length_append,List.length_cons,List.length_nil];omega)) only [go_sem,hf,hlt,hg,Int.toNat_natCast,eq_self]
  exact retC_by (.refl _) (.refl _) ⟨rfl,rfl⟩
 ·have hc':¬ (v:Int)=(x:Int):=by omega
  have hji:j≠i:=fun he=>by
   subst he
   rw [hi] at hx
   exact hc (Option.some.inj hx)
  simp (disch:=first|assumption|omega|(simp only [List.length_append,List.length_cons,List.length_nil];omega)) only [go_sem,hf,hlt,hg,Int.toNat_natCast,hc']
  exact ⟨j+1,by omega,by omega,rfl⟩
theorem xIdxI_ok (k:SK) {l:List Nat} {i v:Nat} (hl:l.length<=100000) (hi:l[i]? = some v) (hn:∀ j,j<i->l[j]? ≠ some v):Pure Tryz.prog 55 [.sl k (kv .i64 l),.int .i64 v] (.int .i64 i):=by
 intro σ
 have hil:i<l.length:=(List.getElem?_eq_some_iff.1 hi).1
 have hkl:=kv_len .i64 l
 have hkg:=fun (i n:Nat) (h:l[i]? = some n)=>kv_get (k := .i64) h
 generalize kv .i64 l=KV at *
 refine a55 (by simp) ?_
 simp (disch:=first|assumption|omega|(simp only [List.length_append,List.length_cons,List.length_nil];omega)) only [go_sem,hkl]
 refine wp_loop_on (fun (j:Nat) a1 s2=>j<=i/\(a1 0 = .sl k KV/\a1 1 = .int .i64 v/\a1 7 = .int .i64 l.length/\a1 8 = .int .i64 j)/\s2=σ) (fun j=>i+1-j) 0 ⟨Nat.zero_le _,?_,rfl⟩ ?_
 ·simp (disch:=first|assumption|omega|(simp only [List.length_append,List.length_cons,List.length_nil];omega)) only [go_sem]
 rintro j a1 s2 ⟨hj,hf,rfl⟩
 have hlt:(j:Int)<(l.length:Int):=by omega
 obtain ⟨x,hx⟩:∃ x,l[j]? = some x:=⟨_,List.getElem?_eq_getElem (by omega)⟩
 have hg:=hkg j x hx
 by_cases hc:v=x
 ·subst hc
  obtain rfl:j=i:=by
   refine Classical.byContradiction fun he=>?_
   exact hn j (by omega) hx
  simp (disch:=first|assumption|omega|(simp only [List.length_append,List.length_cons,List.length_nil];omega)) only [go_sem,hf,hlt,hg,Int.toNat_natCast,eq_self]
  exact retC_by (.refl _) (.refl _) ⟨rfl,rfl⟩
 ·have hc':¬ (v:Int)=(x:Int):=by omega
  have hji:j≠i:=fun he=>by
   subst he
   rw [hi] at hx
   exact hc (Option.some.inj hx)
  simp (disch:=first|assumption|omega|(simp only [List.length_append,List.length_cons,List.length_nil];omega)) only [go_sem,hf,hlt,hg,Int.toNat_natCast,hc']
  exact ⟨j+1,by omega,by omega,rfl⟩
end Go.A
namespace Go.A
open Go.Proofs
/-! 89: tabular/vint.PutU64 -/
def c89_2:ACode := .seq (.ops [ oq 4 (.mv (.t 0)),oq 5 (.mv (.t 1)),oq 6 (.conv .u32 (.t 5)),oe 7 (.call 36 [(.t 4),(.t 6)])]) (.ops [ oq 8 (.mv (.t 0)),oq 9 (.slfrom (false,1) (.t 8) (.v (.int .i64 4))),oq 10 (.mv (.t 1)),oq 11 (.bin .shr (.t 10) (.v (.int .u64 32))),oq 12 (.conv .u32 (.t 11)),oe 13 (.call 36 [(.t 9),(.t 12)])])
@[go_sem] def c89_2_wp:=wp_of c89_2.eq_1
def c89:AFn:=⟨14,[],c89_2⟩
theorem c89_ok:compF Tryz.prog Tryz.f89=some c89:=by kernel_rfl
theorem a89 {args:List AV} {σ:ASt} {R:AV->ASt->Prop} (hl:args.length<=14) (h:c89_2.wp Tryz.prog (RetQ [] R) (init args) σ):ACalls Tryz.prog 89 args σ R:=acalls_of Tryz.func89 c89_ok hl h
/-! 146: tabular/vint.U64 -/
def c146_3:ACode := .seq (.ops [ oq 2 (.mv (.v (.int .u64 0)))]) (.seq (.ops [ oq 3 (.mv (.t 0)),oq 6 (.mv (.t 0)),oq 7 (.slfrom (false,1) (.t 6) (.v (.int .i64 4))),oe 4 (.call 147 [(.t 3)]),oq 5 (.conv .u64 (.t 4)),oe 8 (.call 147 [(.t 7)]),oq 9 (.conv .u64 (.t 8)),oq 10 (.bin .shl (.t 9) (.v (.int .u64 32))),oq 11 (.bin .or (.t 5) (.t 10)),oq 2 (.mv (.t 11))]) .ret)
@[go_sem] def c146_3_wp:=wp_of c146_3.eq_1
def c146:AFn:=⟨12,[.t 2],c146_3⟩
theorem c146_ok:compF Tryz.prog Tryz.f146=some c146:=by kernel_rfl
theorem a146 {args:List AV} {σ:ASt} {R:AV->ASt->Prop} (hl:args.length<=12) (h:c146_3.wp Tryz.prog (RetQ [.t 2] R) (init args) σ):ACalls Tryz.prog 146 args σ R:=acalls_of Tryz.func146 c146_ok hl h
end Go.A
namespace Go.A
open Go.Proofs
def le64 (v:Nat):List UInt8:=le32 (v % 4294967296)++le32 (v / 4294967296)
theorem le64_len (v:Nat):(le64 v).length=8:=rfl
def bat (b:List UInt8) (o n:Nat):List UInt8:=(b.drop o).take n
theorem spl_get {α:Type} {b ys:List α} {o:Nat} (h:o+ys.length<=b.length) (j:Nat):(spl b o ys)[j]? = if j<o then b[j]? else if j<o+ys.length then ys[j-o]? else b[j]? := by
 unfold spl
 have h1:(b.take o).length=o:=by rw [List.length_take];omega
 by_cases hj:j<o
 ·rw [if_pos hj,List.append_assoc,List.getElem?_append_left (by omega),List.getElem?_take,if_pos hj]
 ·rw [if_neg hj]
  by_cases hj2:j<o+ys.length
  ·rw [if_pos hj2,List.append_assoc,List.getElem?_append_right (by omega),List.getElem?_append_left (by omega),h1]
  ·rw [if_neg hj2,List.getElem?_append_right (by rw [List.length_append];omega),List.getElem?_drop,List.length_append,h1]
   congr 1
   omega
theorem bat_get (b:List UInt8) (o n j:Nat):(bat b o n)[j]? = if j<n then b[o+j]? else none:=by
 unfold bat
 rw [List.getElem?_take]
 split
 ·rw [List.getElem?_drop]
 ·rfl
theorem bat_same {b ys:List UInt8} {o:Nat} (h:o+ys.length<=b.length):bat (spl b o ys) o ys.length=ys:=by
 refine List.ext_getElem? fun j=>?_
 rw [bat_get]
 by_cases hj:j<ys.length
 ·rw [if_pos hj,spl_get h,if_neg (by omega),if_pos (by omega)]
  congr 1
  omega
 ·rw [if_neg hj,List.getElem?_eq_none (by omega)]
theorem bat_else {b ys:List UInt8} {o o' n':Nat} (h:o+ys.length<=b.length) (hd:o'+n'<=o\/o+ys.length<=o'):bat (spl b o ys) o' n'=bat b o' n':=by
 refine List.ext_getElem? fun j=>?_
 rw [bat_get,bat_get]
 by_cases hj:j<n'
 ·rw [if_pos hj,if_pos hj,spl_get h]
  by_cases h1:o'+j<o
  ·rw [if_pos h1]
  ·rw [if_neg h1,if_neg (by omega)]
 ·rw [if_neg hj,if_neg hj]
theorem get_else {b ys:List UInt8} {o j:Nat} (h:o+ys.length<=b.length) (hd:j<o\/o+ys.length<=j):(spl b o ys)[j]? = b[j]? := by
 rw [spl_get h]
 by_cases h1:j<o
 ·rw [if_pos h1]
 ·rw [if_neg h1,if_neg (by omega)]
theorem get_same {b:List UInt8} {o:Nat} {y:UInt8} (h:o+1<=b.length):(spl b o [y])[o]? = some y:=by
 rw [spl_get (by simpa using h),if_neg (by omega),if_pos (by simp)]
 simp
theorem spl_bytes (b ys:List UInt8) (o:Nat):spl (bytesAV b) o (bytesAV ys)=bytesAV (spl b o ys):=by
 unfold spl
 rw [kbytes_len,bytes_take,bytes_drop,kbytes_app,kbytes_app]
theorem bat_bytes (b:List UInt8) (o n:Nat):((bytesAV b).drop o).take n=bytesAV (bat b o n):=by
 unfold bat
 rw [bytes_drop,bytes_take]
theorem put_byte {b:List UInt8} {o:Nat} (y:UInt8):(bytesAV b).take o ++ [AV.int .u8 y.toNat]++(bytesAV b).drop (o+1)=bytesAV (spl b o [y]):=by
 rw [<-spl_bytes]
 rfl
theorem bat_sub {b:List UInt8} {o n o2 n2:Nat} (h:o2+n2<=n):bat (bat b o n) o2 n2=bat b (o+o2) n2:=by
 refine List.ext_getElem? fun j=>?_
 rw [bat_get (bat b o n),bat_get b (o+o2)]
 by_cases hj:j<n2
 ·rw [if_pos hj,if_pos hj,bat_get,if_pos (by omega)]
  congr 1
  omega
 ·rw [if_neg hj,if_neg hj]
theorem le64_lo (v:Nat):bat (le64 v) 0 4=le32 (v % 4294967296):=rfl
theorem le64_hi (v:Nat):bat (le64 v) 4 4=le32 (v / 4294967296):=rfl
section
variable {σ:ASt} {B o n c v:Nat} {b:List UInt8}
theorem mput32_ok (hB:σ B=some (.obj (bytesAV b))) (ho:o+4<=b.length) (hn:4<=n) (hv:v<4294967296) :
  ACalls Tryz.prog 36 [.msl B o n c,.int .u32 v] σ fun r σ'=>r = .tuple []/\σ'=σ.set B (some (.obj (bytesAV (spl b o (le32 v))))):=by
 have:=putU32_ok (c:=c) hB (o:=o) (n:=n) (by rw [kbytes_len];exact ho) hn hv
 rw [spl_bytes] at this
 exact this
theorem spl_two {b x y:List UInt8} {o:Nat} (h:o+x.length+y.length<=b.length):spl (spl b o x) (o+x.length) y=spl b o (x++y):=by
 refine List.ext_getElem? fun j=>?_
 rw [spl_get (by rw [spl_len (by omega)];exact h),spl_get (by omega),spl_get (by rw [List.length_append];omega),List.length_append]
 by_cases h1:j<o
 ·rw [if_pos (by omega),if_pos h1,if_pos h1]
 ·by_cases h2:j<o+x.length
  ·rw [if_pos h2,if_neg h1,if_pos h2,if_neg h1,if_pos (by omega),List.getElem?_append_left (by omega)]
  ·rw [if_neg h2]
   by_cases h3:j<o+x.length+y.length
   ·rw [if_pos h3,if_neg h1,if_pos (by omega),List.getElem?_append_right (by omega)]
    congr 1
    omega
   ·rw [if_neg h3,if_neg h1,if_neg h2,if_neg h1,if_neg (by omega)]
theorem mput64_ok (hB:σ B=some (.obj (bytesAV b))) (ho:o+8<=b.length) (hn:8<=n) (hc:n<=c) (hv:v<18446744073709551616) :
  ACalls Tryz.prog 89 [.msl B o n c,.int .u64 v] σ fun r σ'=>r = .tuple []/\σ'=σ.set B (some (.obj (bytesAV (spl b o (le64 v))))):=by
 have h1:=mput32_ok (c:=c) (n:=n) (o:=o) (v:=v % 4294967296) hB (by omega) (by omega) (by omega)
 have h2:=mput32_ok (σ:=σ.set B (some (.obj (bytesAV (spl b o (le32 (v % 4294967296))))))) (B:=B) (o:=o+4) (c:=c-4) (n:=n-4) (v:=v / 4294967296) (b:=spl b o (le32 (v % 4294967296))) (ASt.set_same _ _ _) (by rw [spl_len (by rw [le32_len];omega)];omega) (by omega) (by omega)
 have e:spl (spl b o (le32 (v % 4294967296))) (o+4) (le32 (v / 4294967296))=spl b o (le64 v):=spl_two (by rw [le32_len,le32_len];omega)
 rw [e,ASt.set_set] at h2
 have bits:IntKind.bits .u64=64:=rfl
 have e32:(32:Int).toNat=32:=rfl
 have e4:(4:Int).toNat=4:=rfl
 have w1:IntKind.wrap .u32 (v:Int)=((v % 4294967296:Nat):Int):=by rw [wrap_u32'];rfl
 have w2:(v:Int) / 4294967296=((v / 4294967296:Nat):Int):=rfl
 have p32:(2:Int) ^ 32=4294967296:=rfl
 have hs:slV (false,1) (.msl B o n c) 4 (n:Int)=some (.msl B (o+4) (n-4) (c-4)):=slV_nat (lo:=4) (by omega) hc (by omega)
 have hvd:v / 4294967296<4294967296:=by omega
 refine a89 (by simp) ?_
 simp (disch:=first|assumption|omega|(simp only [List.length_append,List.length_cons,List.length_nil];omega)) only [go_sem,w1]
 refine h1.mono ?_
 rintro r σ1 ⟨rfl,rfl⟩
 simp (disch:=first|assumption|omega|(simp only [List.length_append,List.length_cons,List.length_nil];omega)) only [go_sem,hs,bits,e32,p32,w2]
 refine h2.mono ?_
 rintro r σ1 ⟨rfl,rfl⟩
 simp (disch:=first|assumption|omega|(simp only [List.length_append,List.length_cons,List.length_nil];omega)) only [go_sem]
 exact retC_by (.refl _) (.refl _) ⟨rfl,rfl⟩
theorem mu32_ok (hB:σ B=some (.obj (bytesAV b))) (ho:bat b o 4=le32 v) (hn:4<=n) (hv:v<4294967296):ACalls Tryz.prog 147 [.msl B o n c] σ fun r σ'=>r = .int .u32 v/\σ'=σ:=by
 have:=u32m_ok (s:=le32 v) (c:=c) (n:=n) (le32_len v) hB (by rw [bat_bytes,ho]) hn
 rw [of_le32 hv] at this
 exact this
theorem mu64_ok (hB:σ B=some (.obj (bytesAV b))) (ho:bat b o 8=le64 v) (hn:8<=n) (hc:n<=c) (hv:v<18446744073709551616):ACalls Tryz.prog 146 [.msl B o n c] σ fun r σ'=>r = .int .u64 v/\σ'=σ:=by
 have b1:bat b o 4=le32 (v % 4294967296):=by
  have:=bat_sub (b:=b) (o:=o) (n:=8) (o2:=0) (n2:=4) (by omega)
  rw [ho,le64_lo] at this
  exact this.symm
 have b2:bat b (o+4) 4=le32 (v / 4294967296):=by
  have:=bat_sub (b:=b) (o:=o) (n:=8) (o2:=4) (n2:=4) (by omega)
  rw [ho,le64_hi] at this
  exact this.symm
 have h1:=mu32_ok (c:=c) (n:=n) hB b1 (by omega) (by omega)
 have h2:=mu32_ok (c:=c-4) (n:=n-4) hB b2 (by omega) (by omega)
 have hs:slV (false,1) (.msl B o n c) 4 (n:Int)=some (.msl B (o+4) (n-4) (c-4)):=slV_nat (lo:=4) (by omega) hc (by omega)
 have bits:IntKind.bits .u64=64:=rfl
 have e32:(32:Int).toNat=32:=rfl
 obtain ⟨lo,hlo⟩:∃ lo,lo=v % 4294967296:=⟨_,rfl⟩
 obtain ⟨hi,hhi⟩:∃ hi,hi=v / 4294967296:=⟨_,rfl⟩
 rw [<-hlo] at h1
 rw [<-hhi] at h2
 have l1:lo<4294967296:=by omega
 have l2:hi<4294967296:=by omega
 have hve:lo+hi*4294967296=v:=by omega
 obtain ⟨H,hH⟩:∃ H,H=hi*4294967296:=⟨_,rfl⟩
 have m1:(hi:Int)*4294967296=(H:Int):=by omega
 have hHl:H<=18446744073709551615:=by omega
 have p32:(2:Int) ^ 32=4294967296:=rfl
 have ho64:binI .or .u64 (lo:Int) (H:Int)=some (.int .u64 (v:Int)):=by
  have e1:(BitVec.ofInt 64 (lo:Int) ||| BitVec.ofInt 64 (H:Int)).toNat=lo ||| H:=by
   rw [BitVec.toNat_or,BitVec.toNat_ofInt,BitVec.toNat_ofInt]
   congr 1
   ·omega
   ·omega
  have e2:lo ||| H=lo+H:=by rw [hH];exact or_add (k:=32) (by omega)
  show some (AV.int .u64 (IntKind.wrap .u64 _))=_
  rw [bits,e1,e2,wrap_u64 (by omega) (by omega)]
  congr 2
  omega
 refine a146 (by simp) ?_
 simp (disch:=first|assumption|omega|(simp only [List.length_append,List.length_cons,List.length_nil];omega)) only [go_sem]
 refine h1.mono ?_
 rintro r σ1 ⟨rfl,rfl⟩
 simp (disch:=first|assumption|omega|(simp only [List.length_append,List.length_cons,List.length_nil];omega)) only [go_sem,hs]
 refine h2.mono ?_
 rintro r σ1 ⟨rfl,rfl⟩
 simp (disch:=first|assumption|omega|(simp only [List.length_append,List.length_cons,List.length_nil];omega)) only [go_sem,bits,e32,p32,m1,ho64]
 exact retC_by (.refl _) (.refl _) ⟨rfl,rfl⟩
end
end Go.A
namespace Go.A
open Go.Proofs
def blkV:AV->Option Nat
 | .msl b _ _ _=>some b
 | _=>none
def OwnR (σ0 σ:ASt) (k:IntKind) (v:AV) (l:List Nat):Prop:=
 (v = .sl .full []/\l = [])\/∃ X c R,v = .msl X 0 l.length c/\σ X=some (.obj (kv k l++R))/\σ0 X=none/\l.length<=c/\c<=l.length+R.length/\leaves R=true
section
variable {σ0 σ:ASt} {k:IntKind} {v:AV} {l:List Nat}
theorem OwnR.nil (σ0 σ:ASt) (k:IntKind):OwnR σ0 σ k (.sl .full []) [] := .inl ⟨rfl,rfl⟩
theorem OwnR.mono (h:OwnR σ0 σ k v l) {σ':ASt} (hs:∀ X r,blkV v=some X->σ X=some r->σ' X=some r):OwnR σ0 σ' k v l:=by
 rcases h with h|⟨X,c,R,rfl,h1,h2⟩
 ·exact .inl h
 ·exact .inr ⟨X,c,R,rfl,hs X _ rfl h1,h2⟩
theorem OwnR.set (h:OwnR σ0 σ k v l) {X:Nat} {r:Option Role} (hX:blkV v≠some X):OwnR σ0 (σ.set X r) k v l:=
 h.mono fun Y q hY hq=>by rw [ASt.set_ne (fun e=>hX (by rw [hY,e]))];exact hq
theorem OwnR.blk (h:OwnR σ0 σ k v l) {X:Nat} (hX:blkV v=some X):(∃ cs,σ X=some (.obj cs))/\σ0 X=none:=by
 rcases h with ⟨rfl,_⟩|⟨Y,c,R,rfl,h1,h2,_⟩
 ·cases hX
 ·injection hX with hX;subst hX
  exact ⟨⟨_,h1⟩,h2⟩
theorem OwnR.app (h:OwnR σ0 σ k v l) (h0:∀ x,σ x=none->σ0 x=none) (hl:l.length<=100000) {e:TypeId} {kl:SK} {x:Nat} {z:Int} {K:AV->ASt->Prop}
  (hK:∀ v' X r,blkV v'=some X->(blkV v=some X\/σ X=none)->OwnR σ0 (σ.set X (some r)) k v' (l ++ [x])->K v' (σ.set X (some r))):appC e 1 8 [.int k z] v (.sl kl [.int k x]) σ K:=by
 have hfl : [AV.int k (x:Int)].flatMap AV.cells = [AV.int k (x:Int)]:=rfl
 have h1l : [AV.int k (x:Int)].length=1:=rfl
 have hkx:kv k (l ++ [x])=kv k l ++ [.int k x]:=by rw [kv_app];rfl
 have hll:(l ++ [x]).length=l.length+1:=by rw [List.length_append];rfl
 have hrow:∀ (cs:List AV) n c,ownRow 1 [AV.int k z] cs n c=cs++(List.range ((c-n)*1)).map fun i => [AV.int k z].getD (i % 1) .any:=fun cs n c=>rfl
 have hz:∀ m,leaves ((List.range m).map fun i => [AV.int k z].getD (i % 1) .any)=true:=fun m=>by
  have hh:∀ (L:List Nat),leaves (L.map fun i => [AV.int k z].getD (i % 1) .any)=true:=by
   intro L
   induction L with
   | nil=>rfl
   | cons a L ih=>
     rw [List.map_cons,leaves_cons,ih,Nat.mod_one]
     rfl
  exact hh _
 rcases h with ⟨rfl,rfl⟩|⟨X,c,R,rfl,h1,h2,h3,h4,h5⟩
 ·refine appO_by rfl rfl rfl (by rw [h1l];decide) (by rw [h1l];decide) (by rw [h1l];decide) fun b c hb hc=>?_
  have hc:1<=c:=hc
  refine hK _ b _ rfl (.inr hb) (.inr ⟨b,c,(List.range ((c-1)*1)).map fun i => [AV.int k z].getD (i % 1) .any,rfl,?_,h0 b hb,hc,?_,hz _⟩)
  ·rw [ASt.set_same];rfl
  ·rw [List.length_map,List.length_range,List.nil_append]
   show c<=1+(c-1)*1
   omega
 ·rw [appC_msl,h1]
  have hml:(kv k l++R).length=l.length+R.length:=by rw [List.length_append,kv_len]
  refine appM_by rfl rfl (by rw [h1l];omega) (by rw [h1l];omega) (by omega) (fun hroom=>⟨by rw [h1l] at hroom ⊢;omega,?_⟩) (fun hgrow b' c' hb' hc'=>?_)
  ·rw [h1l] at hroom ⊢
   obtain ⟨r0,R',rfl⟩:∃ r0 R',R=r0::R':=by
    cases R with
    | nil=>simp only [List.length_nil] at h4;omega
    | cons r0 R'=>exact ⟨r0,R',rfl⟩
   have hs:splice (kv k l++r0::R') (0+l.length*1) (1*1) ([AV.int k (x:Int)].flatMap AV.cells)=kv k (l ++ [x])++R':=by
    have e:kv k l++r0::R'=kv k l ++ [r0]++R':=by simp only [List.append_assoc,List.cons_append,List.nil_append]
    rw [e,hfl,splice_mid (A:=kv k l) (B := [r0]) (C:=R') (o:=0+l.length*1) (n:=1*1) (by rw [kv_len];omega) rfl,hkx]
   rw [hs]
   rw [leaves_cons,Bool.and_eq_true] at h5
   refine hK _ X _ rfl (.inl rfl) (.inr ⟨X,c,R',by rw [hll],ASt.set_same _ _ _,h2,by omega,?_,h5.2⟩)
   rw [hll]
   simp only [List.length_cons] at h4
   omega
  ·rw [h1l] at hgrow hc' ⊢
   have ht:((kv k l++R).drop 0).take (l.length*1)=kv k l:=by rw [List.drop_zero,Nat.mul_one,← kv_len k l,List.take_left]
   rw [ht,hfl,hrow,← hkx]
   refine hK _ b' _ rfl (.inr hb') (.inr ⟨b',c',(List.range ((c'-(l.length+1))*1)).map fun i => [AV.int k z].getD (i % 1) .any,by rw [hll],ASt.set_same _ _ _,h0 b' hb',by omega,?_,hz _⟩)
   rw [hll,List.length_map,List.length_range]
   omega
theorem OwnR.look (h:OwnR σ0 σ k v l) {σ':ASt} (hn:∀ X,blkV v=some X->σ' X=none):∃ kk,Fz σ σ' v (.sl kk (kv k l)):=by
 rcases h with ⟨rfl,rfl⟩|⟨X,c,R,rfl,h1,h2,h3,h4,h5⟩
 ·exact ⟨.full,.refl _⟩
 ·refine ⟨.shr,.msl (cs:=kv k l++R) 0 l.length c 1 (kv k l) h1 (hn X rfl) (kv_len k l).symm h3 (fun x hx=>by rw [kv_cells hx];rfl) ?_⟩
  rw [kv_flat,List.drop_zero,Nat.mul_one,← kv_len k l,List.take_left]
theorem OwnR.get (h:OwnR σ0 σ k v l) {i n:Nat} (hi:l[i]? = some n):∃ X c R,v = .msl X 0 l.length c/\σ X=some (.obj (kv k l++R))/\(kv k l++R)[i]? = some (.int k n):=by
 rcases h with ⟨rfl,rfl⟩|⟨X,c,R,rfl,h1,h2,h3,h4,h5⟩
 ·simp at hi
 ·exact ⟨X,c,R,rfl,h1,kv_get' hi⟩
theorem OwnR.cell (h:OwnR σ0 σ k v l):v.cells = [v]/\v.leaf=true/\v.isAny=false:=by
 rcases h with ⟨rfl,rfl⟩|⟨X,c,R,rfl,_⟩<;>exact ⟨rfl,rfl,rfl⟩
theorem OwnR.len (h:OwnR σ0 σ k v l):lenC v=some (.int .i64 l.length):=by
 rcases h with ⟨rfl,rfl⟩|⟨X,c,R,rfl,_⟩<;>rfl
end
def lessB (σ:ASt) (v:AV):ASt:=match blkV v with
 | some X=>σ.set X none
 | none=>σ
theorem lessB_eq {σ:ASt} {v:AV} {x:Nat} (h:blkV v≠some x):lessB σ v x=σ x:=by
 unfold lessB
 cases hb:blkV v with
 | none=>rfl
 | some X=>exact ASt.set_ne fun e=>h (by rw [hb,e])
theorem lessB_no {σ:ASt} {v:AV} {x:Nat} (h:blkV v=some x):lessB σ v x=none:=by
 unfold lessB
 rw [h]
 exact ASt.set_same _ _ _
theorem OwnR.ins64 {σ0 σ:ASt} {v:AV} {l:List Nat} (h:OwnR σ0 σ .u64 v l) {i x:Nat} (hi:i<=l.length) (hl:l.length<=1000) :
  ACalls Tryz.prog 67 [v,.int .i64 i,.sl .lit [.int .u64 x]] σ fun r σ'=>r = .sl .shr (kv .u64 (insL l i x))/\σ'=lessB σ v:=by
 rcases h with ⟨rfl,rfl⟩|⟨X,c,R,rfl,h1,h2,h3,h4,h5⟩
 ·obtain rfl:i=0:=Nat.le_zero.1 hi
  exact xIns64_nil
 ·exact xIns64_ok h1 h3 h4 h5 hi hl
theorem OwnR.del64 {σ0 σ:ASt} {v:AV} {l:List Nat} (h:OwnR σ0 σ .u64 v l) {i:Nat} (hi:i<l.length) (hl:l.length<=1000) :
  ACalls Tryz.prog 57 [v,.int .i64 i,.int .i64 ((i:Int)+1)] σ fun r σ'=>r = .sl .shr (kv .u64 (delL l i))/\σ'=lessB σ v:=by
 rcases h with ⟨rfl,rfl⟩|⟨X,c,R,rfl,h1,h2,h3,h4,h5⟩
 ·exact absurd hi (Nat.not_lt_zero _)
 ·exact xDel64_ok h1 h3 hi hl
theorem OwnR.bin64 {σ0 σ:ASt} {v:AV} {l:List Nat} (h:OwnR σ0 σ .u64 v l) {t:Nat} (hl:l.length<=1000) (hp:l.Pairwise (· < ·)) :
  ACalls Tryz.prog 39 [v,.int .u64 t] σ fun r σ'=>r = .tuple [.int .i64 (lowI l t),.bool (decide (l[lowI l t]? = some t))]/\σ'=σ:=by
 obtain ⟨kk,hz⟩:=h.look (σ':=noRole) fun _ _=>rfl
 exact (xBin64_ok kk (by omega) hp).lend (by intro v hv;simp only [List.mem_cons,List.not_mem_nil,or_false] at hv;rcases hv with rfl|rfl<;>trivial) (.cons hz (.cons (.refl _) .nil))
end Go.A
namespace Go.A
open Go.Proofs
/-! Maps of numbers,plainly. -/
theorem findM_put {α:Type} (l:List (Int×α)) (k:Int) (v:α) (q:Int):findM (putM l k v) q=if q=k then some v else findM l q:=by
 induction l with
 | nil=>rfl
 | cons p l ih=>
   unfold putM
   split
   ·rename_i h
    subst h
    unfold findM
    by_cases hq:q=p.1
    ·subst hq;simp
    ·simp [hq]
   ·rename_i h
    unfold findM
    by_cases hq:q=p.1
    ·subst hq
     rw [if_pos rfl,if_neg (Ne.symm h),if_pos rfl]
    ·rw [if_neg hq,if_neg hq,ih]
theorem findM_none {α:Type} {l:List (Int×α)} {q:Int} (h:q ∉ l.map Prod.fst):findM l q=none:=by
 induction l with
 | nil=>rfl
 | cons p l ih=>
   simp only [List.map_cons,List.mem_cons,not_or] at h
   unfold findM
   rw [if_neg h.1,ih h.2]
theorem findM_del {l:List (Int×Int)} (hn:(l.map Prod.fst).Nodup) (k q:Int):findM (delM l k) q=if q=k then none else findM l q:=by
 induction l with
 | nil=>unfold delM findM;split<;>rfl
 | cons p l ih=>
   simp only [List.map_cons,List.nodup_cons] at hn
   unfold delM
   split
   ·rename_i h
    subst h
    by_cases hq:q=p.1
    ·subst hq
     rw [if_pos rfl,findM_none hn.1]
    ·rw [if_neg hq]
     conv=>rhs;unfold findM
     rw [if_neg hq]
   ·rename_i h
    by_cases hq:q=p.1
    ·subst hq
     unfold findM
     rw [if_pos rfl,if_neg (Ne.symm h),if_pos rfl]
    ·unfold findM
     rw [if_neg hq,if_neg hq,ih hn.2]
theorem putM_keys {α:Type} (l:List (Int×α)) (k:Int) (v:α):(putM l k v).map Prod.fst=if k∈l.map Prod.fst then l.map Prod.fst else l.map Prod.fst ++ [k]:=by
 induction l with
 | nil=>rfl
 | cons p l ih=>
   unfold putM
   split
   ·rename_i h
    subst h
    simp
   ·rename_i h
    simp only [List.map_cons,ih,List.mem_cons]
    by_cases hm:k∈l.map Prod.fst
    ·rw [if_pos hm,if_pos (.inr hm)]
    ·rw [if_neg hm,if_neg (by rintro (h2|h2);exact h h2;exact hm h2)]
     rfl
theorem putM_nodup {α:Type} {l:List (Int×α)} (hn:(l.map Prod.fst).Nodup) (k:Int) (v:α):((putM l k v).map Prod.fst).Nodup:=by
 rw [putM_keys]
 split
 ·exact hn
 ·rename_i h
  rw [List.nodup_append]
  refine ⟨hn,by simp,fun a ha b hb=>?_⟩
  rw [List.mem_singleton.1 hb]
  rintro rfl
  exact h ha
theorem delM_sub:∀ (l:List (Int×Int)) (k:Int),(delM l k).Sublist l
 | [],k=>List.Sublist.refl _
 | p::l,k=>by
   unfold delM
   split
   ·exact List.sublist_cons_self p l
   ·exact (delM_sub l k).cons_cons p
theorem delM_nodup {l:List (Int×Int)} (hn:(l.map Prod.fst).Nodup) (k:Int):((delM l k).map Prod.fst).Nodup:=
 ((delM_sub l k).map Prod.fst).nodup hn
structure Frm where
 fa:Nat
 xa:Nat
 c:Nat
 page:Nat
 bs:List UInt8
 used:Bool
 dirty:Bool
def Frm.cs (f:Frm) (p:Nat) (pins:Int):List AV := [.ptr p 0,.int .i64 f.page,.msl f.xa 0 504 f.c,.int .i64 pins,.bool f.used,.bool f.dirty]
def frV:Option Frm->AV
 | none => .nilp
 | some f => .ptr f.fa 0
structure TxV where
 op:Bool
 wv:AV
 mv:AV
 gv:AV
def plCs (d ra ma k:Nat) (hand pins:Int) (tx:TxV):List AV := [.ptr d 0,.msl ra 0 k k,.map (some ma),.int .i64 hand,.int .i64 pins,.bool tx.op,tx.wv,tx.mv,tx.gv]
def pinV (pin:Option Nat) (i:Nat):Int:=if pin=some i then 1 else 0
structure PM (base σ:ASt) (p d ra ma:Nat) (own:Nat->Nat) (hand pins:Int) (fs:List (Option Frm)) (am:List (Int×Int)) (pin:Option Nat) (tx:TxV):Prop where
 hp:σ p=some (.obj (plCs d ra ma fs.length hand pins tx))
 hr:σ ra=some (.obj (fs.map frV))
 hm:σ ma=some (.map am)
 hf:∀ (i:Nat) (f:Frm),fs[i]? = some (some f)->σ f.fa=some (.obj (f.cs p (pinV pin i)))
 hx:∀ (i:Nat) (f:Frm),fs[i]? = some (some f)->pin≠some i->σ f.xa=some (.obj (bytesAV f.bs))
 o1:own p=0
 o2:own ra=1
 o3:own ma=2
 o4:∀ (i:Nat) (f:Frm),fs[i]? = some (some f)->own f.fa=2*i+3/\own f.xa=2*i+4
 z1:base p=none
 z2:base ra=none
 z3:base ma=none
 z4:∀ (i:Nat) (f:Frm),fs[i]? = some (some f)->base f.fa=none/\(pin≠some i->base f.xa=none)
 ext:∀ x r,base x=some r->σ x=some r
section
variable {base σ:ASt} {p d ra ma:Nat} {own:Nat->Nat} {hand pins:Int} {fs:List (Option Frm)} {am:List (Int×Int)} {pin:Option Nat} {tx:TxV}
theorem set_own {own:Nat->Nat} {x y:Nat} {r:Option Role} (h:own y≠own x):(σ.set x r) y=σ y:=ASt.set_ne fun e=>h (by rw [e])
theorem ext_set {x:Nat} {r:Option Role} (he:∀ x r,base x=some r->σ x=some r) (hx:base x=none):∀ y q,base y=some q->(σ.set x r) y=some q:=fun y q hy=>by
 have:y≠x:=fun e=>by rw [e,hx] at hy;cases hy
 rw [ASt.set_ne this];exact he y q hy
theorem PM.setP (h:PM base σ p d ra ma own hand pins fs am pin tx) (hand' pins':Int) (tx':TxV):PM base (σ.set p (some (.obj (plCs d ra ma fs.length hand' pins' tx')))) p d ra ma own hand' pins' fs am pin tx':=by
 have o1:=h.o1;have o2:=h.o2;have o3:=h.o3
 refine ⟨ASt.set_same _ _ _,?_,?_,fun i f hi=>?_,fun i f hi hn=>?_,h.o1,h.o2,h.o3,h.o4,h.z1,h.z2,h.z3,h.z4,ext_set h.ext h.z1⟩
 ·rw [set_own (own:=own) (by omega)];exact h.hr
 ·rw [set_own (own:=own) (by omega)];exact h.hm
 ·have:=h.o4 i f hi
  rw [set_own (own:=own) (by omega)];exact h.hf i f hi
 ·have:=h.o4 i f hi
  rw [set_own (own:=own) (by omega)];exact h.hx i f hi hn
theorem PM.setM (h:PM base σ p d ra ma own hand pins fs am pin tx) (am':List (Int×Int)):PM base (σ.set ma (some (.map am'))) p d ra ma own hand pins fs am' pin tx:=by
 have o1:=h.o1;have o2:=h.o2;have o3:=h.o3
 refine ⟨?_,?_,ASt.set_same _ _ _,fun i f hi=>?_,fun i f hi hn=>?_,h.o1,h.o2,h.o3,h.o4,h.z1,h.z2,h.z3,h.z4,ext_set h.ext h.z3⟩
 ·rw [set_own (own:=own) (by omega)];exact h.hp
 ·rw [set_own (own:=own) (by omega)];exact h.hr
 ·have:=h.o4 i f hi
  rw [set_own (own:=own) (by omega)];exact h.hf i f hi
 ·have:=h.o4 i f hi
  rw [set_own (own:=own) (by omega)];exact h.hx i f hi hn
theorem set_some {i j:Nat} {f g:Frm} {o:Option Frm} (h:(fs.set i o)[j]? = some (some g)):(j=i/\o=some g)\/(j≠i/\fs[j]? = some (some g)):=by
 by_cases hj:j=i
 ·subst hj
  have hl:j<fs.length:=by
   have:=(List.getElem?_eq_some_iff.1 h).1
   rwa [List.length_set] at this
  rw [List.getElem?_set_self hl] at h
  exact .inl ⟨rfl,Option.some.inj h⟩
 ·rw [List.getElem?_set_ne (Ne.symm hj)] at h
  exact .inr ⟨hj,h⟩
theorem PM.setN (h:PM base σ p d ra ma own hand pins fs am pin tx) {i:Nat} (hi:pin≠some i):PM base (σ.set ra (some (.obj ((fs.set i none).map frV)))) p d ra ma own hand pins (fs.set i none) am pin tx:=by
 have o1:=h.o1;have o2:=h.o2;have o3:=h.o3
 have key:∀ (j:Nat) (g:Frm),(fs.set i none)[j]? = some (some g)->fs[j]? = some (some g):=fun j g hj=>by
  rcases set_some (f:=g) hj with ⟨_,h2⟩|⟨_,h2⟩
  ·cases h2
  ·exact h2
 refine ⟨?_,ASt.set_same _ _ _,?_,fun j f hj=>?_,fun j f hj hn=>?_,h.o1,h.o2,h.o3,fun j f hj=>h.o4 j f (key j f hj),h.z1,h.z2,h.z3,fun j f hj=>h.z4 j f (key j f hj),ext_set h.ext h.z2⟩
 ·rw [set_own (own:=own) (by omega),List.length_set];exact h.hp
 ·rw [set_own (own:=own) (by omega)];exact h.hm
 ·have:=h.o4 j f (key j f hj)
  rw [set_own (own:=own) (by omega)];exact h.hf j f (key j f hj)
 ·have:=h.o4 j f (key j f hj)
  rw [set_own (own:=own) (by omega)];exact h.hx j f (key j f hj) hn
theorem PM.setF (h:PM base σ p d ra ma own hand pins fs am pin tx) {i:Nat} {f:Frm} (hi:fs[i]? = some (some f)) (u y:Bool):PM base (σ.set f.fa (some (.obj ({ f with used:=u,dirty:=y }.cs p (pinV pin i))))) p d ra ma own hand pins (fs.set i (some { f with used:=u,dirty:=y })) am pin tx:=by
 have o1:=h.o1;have o2:=h.o2;have o3:=h.o3
 have oi:=h.o4 i f hi
 have hl:i<fs.length:=(List.getElem?_eq_some_iff.1 hi).1
 have hmap:(fs.set i (some { f with used:=u,dirty:=y })).map frV=fs.map frV:=by
  rw [List.map_set]
  have:frV (some { f with used:=u,dirty:=y })=frV (some f):=rfl
  rw [this]
  refine List.ext_getElem? fun j=>?_
  by_cases hj:j=i
  ·subst hj
   rw [List.getElem?_set_self (by rw [List.length_map];exact hl),List.getElem?_map,hi]
   rfl
  ·rw [List.getElem?_set_ne (Ne.symm hj)]
 refine ⟨?_,?_,?_,fun j g hj=>?_,fun j g hj hn=>?_,h.o1,h.o2,h.o3,fun j g hj=>?_,h.z1,h.z2,h.z3,fun j g hj=>?_,ext_set h.ext (h.z4 i f hi).1⟩
 ·rw [set_own (own:=own) (by omega),List.length_set];exact h.hp
 ·rw [set_own (own:=own) (by omega),hmap];exact h.hr
 ·rw [set_own (own:=own) (by omega)];exact h.hm
 ·rcases set_some (f:=g) hj with ⟨rfl,h2⟩|⟨h1,h2⟩
  ·injection h2 with h2;subst h2
   exact ASt.set_same _ _ _
  ·have:=h.o4 j g h2
   rw [set_own (own:=own) (by omega)];exact h.hf j g h2
 ·rcases set_some (f:=g) hj with ⟨rfl,h2⟩|⟨h1,h2⟩
  ·injection h2 with h2;subst h2
   show (σ.set f.fa _) f.xa=_
   rw [set_own (own:=own) (by omega)];exact h.hx j f hi hn
  ·have:=h.o4 j g h2
   rw [set_own (own:=own) (by omega)];exact h.hx j g h2 hn
 ·rcases set_some (f:=g) hj with ⟨rfl,h2⟩|⟨h1,h2⟩
  ·injection h2 with h2;subst h2;exact oi
  ·exact h.o4 j g h2
 ·rcases set_some (f:=g) hj with ⟨rfl,h2⟩|⟨h1,h2⟩
  ·injection h2 with h2;subst h2;exact h.z4 j f hi
  ·exact h.z4 j g h2
theorem PM.pinned (h:PM base σ p d ra ma own hand pins fs am none tx) {i:Nat} {f:Frm} (hi:fs[i]? = some (some f)) (u:Bool) :
  PM (base.set f.xa (some (.obj (bytesAV f.bs)))) ((σ.set f.fa (some (.obj ({ f with used:=u }.cs p 1))))) p d ra ma own hand pins (fs.set i (some { f with used:=u })) am (some i) tx:=by
 have o1:=h.o1;have o2:=h.o2;have o3:=h.o3
 have oi:=h.o4 i f hi
 have hl:i<fs.length:=(List.getElem?_eq_some_iff.1 hi).1
 have hmap:(fs.set i (some { f with used:=u })).map frV=fs.map frV:=by
  rw [List.map_set]
  have:frV (some { f with used:=u })=frV (some f):=rfl
  rw [this]
  refine List.ext_getElem? fun j=>?_
  by_cases hj:j=i
  ·subst hj
   rw [List.getElem?_set_self (by rw [List.length_map];exact hl),List.getElem?_map,hi]
   rfl
  ·rw [List.getElem?_set_ne (Ne.symm hj)]
 refine ⟨?_,?_,?_,fun j g hj=>?_,fun j g hj hn=>?_,h.o1,h.o2,h.o3,fun j g hj=>?_,?_,?_,?_,fun j g hj=>?_,fun x r hx=>?_⟩
 ·rw [set_own (own:=own) (by omega),List.length_set];exact h.hp
 ·rw [set_own (own:=own) (by omega),hmap];exact h.hr
 ·rw [set_own (own:=own) (by omega)];exact h.hm
 ·rcases set_some (f:=g) hj with ⟨rfl,h2⟩|⟨h1,h2⟩
  ·injection h2 with h2;subst h2
   show (σ.set f.fa _) f.fa=some (.obj ({ f with used:=u }.cs p (pinV (some j) j)))
   have:pinV (some j) j=1:=if_pos rfl
   rw [this]
   exact ASt.set_same _ _ _
  ·have:=h.o4 j g h2
   have e:pinV (some i) j=pinV none j:=by
    unfold pinV
    rw [if_neg (by intro he;injection he with he;exact h1 he.symm),if_neg (by intro he;cases he)]
   rw [set_own (own:=own) (by omega),e];exact h.hf j g h2
 ·rcases set_some (f:=g) hj with ⟨rfl,h2⟩|⟨h1,h2⟩
  ·exact absurd rfl hn
  ·have:=h.o4 j g h2
   rw [set_own (own:=own) (by omega)];exact h.hx j g h2 (by simp)
 ·rcases set_some (f:=g) hj with ⟨rfl,h2⟩|⟨h1,h2⟩
  ·injection h2 with h2;subst h2;exact oi
  ·exact h.o4 j g h2
 ·rw [set_own (own:=own) (by omega)];exact h.z1
 ·rw [set_own (own:=own) (by omega)];exact h.z2
 ·rw [set_own (own:=own) (by omega)];exact h.z3
 ·rcases set_some (f:=g) hj with ⟨rfl,h2⟩|⟨h1,h2⟩
  ·injection h2 with h2;subst h2
   refine ⟨?_,fun hn=>absurd rfl hn⟩
   show (base.set f.xa _) f.fa=none
   rw [set_own (own:=own) (by omega)];exact (h.z4 j f hi).1
  ·have hj4:=h.o4 j g h2
   refine ⟨?_,fun _=>?_⟩
   ·rw [set_own (own:=own) (by omega)];exact (h.z4 j g h2).1
   ·rw [set_own (own:=own) (by omega)];exact (h.z4 j g h2).2 (by simp)
 ·have hfz:=(h.z4 i f hi).1
  by_cases hxx:x=f.xa
  ·subst hxx
   rw [ASt.set_same] at hx
   rw [set_own (own:=own) (by omega),h.hx i f hi (by simp),hx]
  ·rw [ASt.set_ne hxx] at hx
   exact ext_set h.ext hfz x r hx
theorem PM.unpin {i:Nat} (h:PM base σ p d ra ma own hand pins fs am (some i) tx) {f:Frm} (hi:fs[i]? = some (some f)) {bs:List UInt8} (hx:base f.xa=some (.obj (bytesAV bs))) :
  PM (base.set f.xa none) ((σ.set f.fa (some (.obj ({ f with bs:=bs }.cs p 0))))) p d ra ma own hand pins (fs.set i (some { f with bs:=bs })) am none tx:=by
 have o1:=h.o1;have o2:=h.o2;have o3:=h.o3
 have oi:=h.o4 i f hi
 have hl:i<fs.length:=(List.getElem?_eq_some_iff.1 hi).1
 have hmap:(fs.set i (some { f with bs:=bs })).map frV=fs.map frV:=by
  rw [List.map_set]
  have:frV (some { f with bs:=bs })=frV (some f):=rfl
  rw [this]
  refine List.ext_getElem? fun j=>?_
  by_cases hj:j=i
  ·subst hj
   rw [List.getElem?_set_self (by rw [List.length_map];exact hl),List.getElem?_map,hi]
   rfl
  ·rw [List.getElem?_set_ne (Ne.symm hj)]
 have hs:∀ j:Nat,j≠i->(some i:Option Nat)≠some j:=fun j hj he=>by injection he with he;exact hj he.symm
 refine ⟨?_,?_,?_,fun j g hj=>?_,fun j g hj hn=>?_,h.o1,h.o2,h.o3,fun j g hj=>?_,?_,?_,?_,fun j g hj=>?_,fun x r hx'=>?_⟩
 ·rw [set_own (own:=own) (by omega),List.length_set];exact h.hp
 ·rw [set_own (own:=own) (by omega),hmap];exact h.hr
 ·rw [set_own (own:=own) (by omega)];exact h.hm
 ·rcases set_some (f:=g) hj with ⟨rfl,h2⟩|⟨h1,h2⟩
  ·injection h2 with h2;subst h2
   exact ASt.set_same _ _ _
  ·have:=h.o4 j g h2
   have e:pinV none j=pinV (some i) j:=by
    unfold pinV
    rw [if_neg (hs j h1),if_neg (by intro he;cases he)]
   rw [set_own (own:=own) (by omega),e];exact h.hf j g h2
 ·rcases set_some (f:=g) hj with ⟨rfl,h2⟩|⟨h1,h2⟩
  ·injection h2 with h2;subst h2
   show (σ.set f.fa _) f.xa=some (.obj (bytesAV bs))
   rw [set_own (own:=own) (by omega)];exact h.ext _ _ hx
  ·have:=h.o4 j g h2
   rw [set_own (own:=own) (by omega)];exact h.hx j g h2 (hs j h1)
 ·rcases set_some (f:=g) hj with ⟨rfl,h2⟩|⟨h1,h2⟩
  ·injection h2 with h2;subst h2;exact oi
  ·exact h.o4 j g h2
 ·rw [set_own (own:=own) (by omega)];exact h.z1
 ·rw [set_own (own:=own) (by omega)];exact h.z2
 ·rw [set_own (own:=own) (by omega)];exact h.z3
 ·rcases set_some (f:=g) hj with ⟨rfl,h2⟩|⟨h1,h2⟩
  ·injection h2 with h2;subst h2
   refine ⟨?_,fun _=>ASt.set_same _ _ _⟩
   show (base.set f.xa _) f.fa=none
   rw [set_own (own:=own) (by omega)];exact (h.z4 j f hi).1
  ·have hj4:=h.o4 j g h2
   refine ⟨?_,fun _=>?_⟩
   ·rw [set_own (own:=own) (by omega)];exact (h.z4 j g h2).1
   ·rw [set_own (own:=own) (by omega)];exact (h.z4 j g h2).2 (hs j h1)
 ·have hfz:=(h.z4 i f hi).1
  by_cases hxx:x=f.xa
  ·subst hxx
   rw [ASt.set_same] at hx'
   cases hx'
  ·rw [ASt.set_ne hxx] at hx'
   exact ext_set h.ext hfz x r hx'
theorem PM.addF (h:PM base σ p d ra ma own hand pins fs am none tx) {i:Nat} (hi:fs[i]? = some none) {f:Frm} (h1:σ f.fa=none) (h2:σ f.xa=none) (h3:f.fa≠f.xa) :
  PM (base.set f.xa (some (.obj (bytesAV f.bs)))) (((σ.set f.xa (some (.obj (bytesAV f.bs)))).set f.fa (some (.obj (f.cs p 1)))).set ra (some (.obj ((fs.set i (some f)).map frV)))) p d ra ma
   (fun x=>if x=f.fa then 2*i+3 else if x=f.xa then 2*i+4 else own x) hand pins (fs.set i (some f)) am (some i) tx:=by
 have hl:i<fs.length:=(List.getElem?_eq_some_iff.1 hi).1
 have ne:∀ {y:Nat} {r:Role},σ y=some r->y≠f.fa/\y≠f.xa:=fun {y r} hy=>⟨fun e=>(by rw [e,h1] at hy;cases hy),fun e=>(by rw [e,h2] at hy;cases hy)⟩
 have hb:∀ {x:Nat},σ x=none->base x=none:=fun {x} hx=>by
  cases hc:base x with
  | none=>rfl
  | some r=>rw [h.ext x r hc] at hx;cases hx
 have kp:=ne h.hp
 have kr:=ne h.hr
 have km:=ne h.hm
 have o1:=h.o1;have o2:=h.o2;have o3:=h.o3
 have hpr:p≠ra:=fun e=>by rw [e] at o1;omega
 have hmr:ma≠ra:=fun e=>by rw [e] at o3;omega
 have tag:∀ {y:Nat},y≠f.fa/\y≠f.xa->(if y=f.fa then 2*i+3 else if y=f.xa then 2*i+4 else own y)=own y:=fun {y} hy=>by rw [if_neg hy.1,if_neg hy.2]
 have put:∀ {y:Nat},y≠f.fa/\y≠f.xa->y≠ra->(((σ.set f.xa (some (.obj (bytesAV f.bs)))).set f.fa (some (.obj (f.cs p 1)))).set ra (some (.obj ((fs.set i (some f)).map frV)))) y=σ y:=fun {y} hy hr=>by
  rw [ASt.set_ne hr,ASt.set_ne hy.1,ASt.set_ne hy.2]
 have bput:∀ {y:Nat},y≠f.xa->(base.set f.xa (some (.obj (bytesAV f.bs)))) y=base y:=fun {y} hy=>ASt.set_ne hy
 have old:∀ (j:Nat) (g:Frm),fs[j]? = some (some g)->(g.fa≠f.fa/\g.fa≠f.xa)/\(g.xa≠f.fa/\g.xa≠f.xa)/\g.fa≠ra/\g.xa≠ra:=fun j g hg=>by
  have:=h.o4 j g hg
  refine ⟨ne (h.hf j g hg),ne (h.hx j g hg (by simp)),fun e=>?_,fun e=>?_⟩
  ·rw [e] at this;omega
  ·rw [e] at this;omega
 have hfr:f.fa≠ra:=Ne.symm kr.1
 have hxr:f.xa≠ra:=Ne.symm kr.2
 refine ⟨?_,ASt.set_same _ _ _,?_,fun j g hj=>?_,fun j g hj hn=>?_,(tag kp).trans o1,(tag kr).trans o2,(tag km).trans o3,fun j g hj=>?_,?_,?_,?_,fun j g hj=>?_,fun x r hx=>?_⟩
 ·rw [put kp hpr,List.length_set];exact h.hp
 ·rw [put km hmr];exact h.hm
 ·rcases set_some (f:=g) hj with ⟨rfl,h4⟩|⟨h4,h5⟩
  ·injection h4 with h4;subst h4
   rw [ASt.set_ne hfr]
   have:pinV (some j) j=1:=if_pos rfl
   rw [this]
   exact ASt.set_same _ _ _
  ·obtain ⟨q1,q2,q3,q4⟩:=old j g h5
   have e:pinV (some i) j=pinV none j:=by
    unfold pinV
    rw [if_neg (by intro he;injection he with he;exact h4 he.symm),if_neg (by intro he;cases he)]
   rw [put q1 q3,e];exact h.hf j g h5
 ·rcases set_some (f:=g) hj with ⟨rfl,h4⟩|⟨h4,h5⟩
  ·exact absurd rfl hn
  ·obtain ⟨q1,q2,q3,q4⟩:=old j g h5
   rw [put q2 q4];exact h.hx j g h5 (by simp)
 ·rcases set_some (f:=g) hj with ⟨rfl,h4⟩|⟨h4,h5⟩
  ·injection h4 with h4;subst h4
   rw [if_pos rfl,if_neg (Ne.symm h3),if_pos rfl]
   exact ⟨rfl,rfl⟩
  ·obtain ⟨q1,q2,q3,q4⟩:=old j g h5
   exact ⟨(tag q1).trans (h.o4 j g h5).1,(tag q2).trans (h.o4 j g h5).2⟩
 ·rw [bput kp.2];exact h.z1
 ·rw [bput kr.2];exact h.z2
 ·rw [bput km.2];exact h.z3
 ·rcases set_some (f:=g) hj with ⟨rfl,h4⟩|⟨h4,h5⟩
  ·injection h4 with h4;subst h4
   exact ⟨by rw [bput h3];exact hb h1,fun hn=>absurd rfl hn⟩
  ·obtain ⟨q1,q2,q3,q4⟩:=old j g h5
   exact ⟨by rw [bput q1.2];exact (h.z4 j g h5).1,fun _=>by rw [bput q2.2];exact (h.z4 j g h5).2 (by simp)⟩
 ·by_cases hxx:x=f.xa
  ·subst hxx
   rw [ASt.set_same] at hx
   rw [ASt.set_ne hxr,ASt.set_ne (Ne.symm h3),ASt.set_same,hx]
  ·rw [ASt.set_ne hxx] at hx
   have hσ:=h.ext x r hx
   have hra:x≠ra:=fun e=>by rw [e,h.z2] at hx;cases hx
   rw [put (ne hσ) hra];exact hσ
end
end Go.A
end
