/- Part 6 of what TabularNames leans on: Na Nb Nd Ne CodeNf Nf CodeNg Ng CodeNh Nh CodeNi Ni CodeNj. -/
import Derived.Test.YtppjmbcjifnmgaaGreatDoorProg
import Derived.KernelRfl
import Derived.Test.YtppjmbcjifnmgaaGreatDoorZTabularNamese
set_option linter.defProp false
set_option linter.unusedSimpArgs false
set_option linter.unusedVariables false
set_option maxRecDepth 100000
section
attribute [local go_sem] reduceCtorEq Nat.reduceEqDiff Nat.reduceAdd Nat.reduceSub Nat.reduceMul Nat.reduceLeDiff Int.reduceLT Int.reduceLE Int.reduceEq Int.reduceNeg Int.reduceAdd Int.reduceSub Int.reduceMul true_imp_iff forall_const Nat.mul_one Int.reduceToNat Nat.reducePow Int.reducePow Bool.true_and Bool.false_and Bool.and_false
attribute [local go_sem ↓] reduceIte
namespace Go.A
open Go.Proofs
theorem wrap64_rng (n:Int) : -9223372036854775808<=IntKind.wrap .i64 n/\IntKind.wrap .i64 n<=9223372036854775807:=by
 have e:IntKind.wrap .i64 n=if 9223372036854775808<=n % 18446744073709551616 then n % 18446744073709551616-18446744073709551616 else n % 18446744073709551616:=by simp [IntKind.wrap,IntKind.bits,IntKind.signed]
 rw [e]
 split<;>omega
def upP (n:Int):Int:=IntKind.wrap .i64 (n+1)
theorem freeV_len (l:List Nat):(freeV l).length=l.length:=by unfold freeV;rw [List.length_map]
theorem freeV_app (l m:List Nat):freeV (l++m)=freeV l++freeV m:=by unfold freeV;rw [List.map_append]
section
variable {σ0 σ:ASt} {d B cB F I cI:Nat} {D:Dsk} {rB rI:List AV} {fv:AV}
theorem DM.growG (h:DM σ0 d D σ B cB rB fv F I cI rI) (hfew:D.free.length<=100000) {p:Nat} {K:AV->ASt->Prop} {e:TypeId} {kl:SK}
  (hK:∀ F' c' τ,τ d=some (.obj (D.cs B cB fv I cI))->DM σ0 d { D with free:=D.free ++ [p] } (τ.set d (some (.obj (D.cs B cB (.msl F' 0 (D.free.length+1) c') I cI)))) B cB rB (.msl F' 0 (D.free.length+1) c') F' I cI rI->K (.msl F' 0 (D.free.length+1) c') τ) :
  appC e 1 8 [.int .i64 0] fv (.sl kl [.int .i64 p]) σ K:=by
 have hfl : [AV.int .i64 (p:Int)].flatMap AV.cells = [AV.int .i64 (p:Int)]:=rfl
 have h1l : [AV.int .i64 (p:Int)].length=1:=rfl
 have hnl:(D.free ++ [p]).length=D.free.length+1:=by rw [List.length_append];rfl
 have hfp:freeV (D.free ++ [p])=freeV D.free ++ [.int .i64 p]:=freeV_app _ _
 have hmake:∀ (b c:Nat) (r:List AV),σ b=none->D.free.length+1<=c->r.length=c-(D.free.length+1)->K (.msl b 0 (D.free.length+1) c) (σ.set b (some (.obj (freeV (D.free ++ [p])++r)))):=fun b c r hb hc hr=>by
  obtain ⟨f1,f2,f3,f4,f5⟩:=h.low hb
  refine hK b c _ (by rw [ASt.set_ne (Ne.symm f1)];exact h.hd) ?_
  refine ⟨ASt.set_same _ _ _,?_,?_,h.cB,h.cI,.inr ⟨c,r,?_,?_,?_,?_,f1,f2,f3,f5⟩,h.n1,h.n2,h.n3,h.z1,h.z2,h.z3,?_⟩
  ·rw [ASt.set_ne (Ne.symm h.n1),ASt.set_ne (Ne.symm f2)];exact h.hB
  ·rw [ASt.set_ne (Ne.symm h.n2),ASt.set_ne (Ne.symm f3)];exact h.hI
  ·show _=AV.msl b 0 (D.free ++ [p]).length c;rw [hnl]
  ·rw [ASt.set_ne f1,ASt.set_same]
  ·show (D.free ++ [p]).length<=c;omega
  ·show r.length=c-(D.free ++ [p]).length;omega
  ·intro x h1 h2 h3 h4
   rw [ASt.set_ne h1,ASt.set_ne h4]
   by_cases hxF:x=F
   ·rw [hxF];exact .inr h.zF
   ·exact h.out x h1 h2 h3 hxF
 have hol:∀ (l:List AV) c,(ownRow 1 [AV.int .i64 0] l (D.free.length+1) c)=l++(ownRow 1 [AV.int .i64 0] [] (D.free.length+1) c):=fun l c=>by unfold ownRow;simp
 have hol2:∀ c,(ownRow 1 [AV.int .i64 0] ([]:List AV) (D.free.length+1) c).length=c-(D.free.length+1):=fun c=>by unfold ownRow;simp
 rcases h.hF with ⟨x1,x2,x3⟩|⟨cF,rF,x1,x2,x3,x4,x5,x6,x7,x8⟩
 ·rw [x2]
  refine appO_by rfl rfl rfl (by rw [h1l];decide) (by rw [h1l];decide) (by rw [h1l];decide) fun b c hb hc=>?_
  have hc:1<=c:=hc
  have hl0:D.free.length=0:=by rw [x1];rfl
  have hm:=hmake b c (ownRow 1 [AV.int .i64 0] [] (D.free.length+1) c) hb (by omega) (hol2 c)
  rw [<-hol,hfp,x1] at hm
  exact hm
 ·subst x1
  have hml:(freeV D.free++rF).length=cF:=by rw [List.length_append,freeV_len];omega
  rw [appC_msl,x2]
  refine appM_by rfl rfl (by rw [h1l];omega) (by rw [h1l];omega) (by omega) (fun hroom=>⟨by rw [h1l] at hroom ⊢;omega,?_⟩) (fun hgrow b' c' hb' hc'=>?_)
  ·rw [h1l] at hroom
   have e:splice (freeV D.free++rF) (0+D.free.length*1) ([AV.int .i64 (p:Int)].length*1) ([AV.int .i64 (p:Int)].flatMap AV.cells)=freeV (D.free ++ [p])++rF.drop 1:=by
    rw [hfl,h1l,Nat.zero_add,Nat.mul_one,Nat.mul_one,hfp]
    unfold splice
    have a1:(freeV D.free++rF).take D.free.length=freeV D.free:=by rw [<-freeV_len D.free,List.take_left]
    have a2:(freeV D.free++rF).drop (D.free.length+1)=rF.drop 1:=by rw [<-List.drop_drop,← freeV_len D.free,List.drop_left]
    rw [a1,a2]
   rw [e]
   refine hK F cF _ (by rw [ASt.set_ne (Ne.symm x5)];exact h.hd) ?_
   refine ⟨ASt.set_same _ _ _,?_,?_,h.cB,h.cI,.inr ⟨cF,rF.drop 1,?_,?_,?_,?_,x5,x6,x7,x8⟩,h.n1,h.n2,h.n3,h.z1,h.z2,h.z3,?_⟩
   ·rw [ASt.set_ne (Ne.symm h.n1),ASt.set_ne (Ne.symm x6)];exact h.hB
   ·rw [ASt.set_ne (Ne.symm h.n2),ASt.set_ne (Ne.symm x7)];exact h.hI
   ·show _=AV.msl F 0 (D.free ++ [p]).length cF;rw [hnl]
   ·rw [ASt.set_ne x5,ASt.set_same]
   ·show (D.free ++ [p]).length<=cF;omega
   ·show (rF.drop 1).length=cF-(D.free ++ [p]).length;rw [List.length_drop];omega
   ·intro x h1 h2 h3 h4
    rw [ASt.set_ne h1,ASt.set_ne h4]
    exact h.out x h1 h2 h3 h4
  ·rw [h1l] at hgrow hc'
   have e:ownRow 1 [AV.int .i64 0] (((freeV D.free++rF).drop 0).take (D.free.length*1) ++ [AV.int .i64 (p:Int)].flatMap AV.cells) (D.free.length + [AV.int .i64 (p:Int)].length) c'=freeV (D.free ++ [p])++ownRow 1 [AV.int .i64 0] [] (D.free.length+1) c':=by
    rw [hfl,h1l,List.drop_zero,Nat.mul_one,hol]
    congr 1
    rw [hfp]
    congr 1
    rw [<-freeV_len D.free,List.take_left]
   rw [e]
   exact hmake b' c' _ hb' (by omega) (hol2 c')
def gaveG (D:Dsk) (p:Nat):Dsk := { D with b:=layP D.b p (le32 (nxfP D D.free.length)),free:=D.free ++ [p],isF:=D.isF.set p true,pt:=upP D.pt }
def retookG (D:Dsk) (p:Nat) (l:List Nat):Dsk := { D with b:=layP D.b p [],free:=l,isF:=D.isF.set p false,pt:=upP D.pt }
set_option maxHeartbeats 1000000 in
theorem dkgive_g (h:DM σ0 d D σ B cB rB fv F I cI rI) (hck:CkT σ0) (ho:D.ok) (hwl:D.wl = -1) {p:Nat} (h1:1<=p) (hp:p<D.isF.length) (hx:D.isF[p]? = some false) :
  ACalls Tryz.prog 123 [.ptr d 0,.int .i64 p] σ fun v σ'=>v = .int .i64 0/\DiskAt σ0 d (gaveG D p) σ':=by
 have hwr:=wrap64_rng (D.pt+1)
 have hfew:=ho.few
 have hm:=ho.most
 have hh:=dkhas_ok h.lm ho.len (by omega) rfl h1 hp hx
 have hf:=dkfailW_ok h ho
 have hfd:failD D.wl=(-1,0):=by rw [hwl];rfl
 have hDw:({ D with wl := -1 }:Dsk)=D:=by rw [<-hwl]
 rw [hfd] at hf
 dsimp only at hf
 rw [hDw] at hf
 have hset:σ.set d (some (.obj (D.cs B cB fv I cI)))=σ:=by
  funext x
  by_cases hx:x=d
  ·rw [hx,ASt.set_same,h.hd]
  ·rw [ASt.set_ne hx]
 rw [hset] at hf
 obtain ⟨D1,hD1⟩:∃ D1:Dsk,D1 = { D with pt:=upP D.pt }:=⟨_,rfl⟩
 have h2:=h.cells (D':=D1) (by rw [hD1]) (by rw [hD1]) (by rw [hD1])
 have ho1:D1.ok:=by
  rw [hD1]
  exact ⟨ho.len,ho.one,ho.most,ho.free,ho.few,ho.rl,ho.wl,ho.rd,hwr⟩
 have hnx:=dknext_ok h2 ho1 (i:=D.free.length) (by rw [hD1];exact Nat.le_refl _)
 have hn0:nxfP D1 D.free.length=nxfP D D.free.length:=by rw [hD1];rfl
 rw [hn0] at hnx
 have hlay:=dklay_ok (h2.at hck) h2 ho1 (p:=p) (by rw [hD1];exact hp) (s:=le32 (nxfP D D.free.length)) (by rw [le32_len];decide)
 have h3:=h2.lay (b':=layP D1.b p (le32 (nxfP D D.free.length))) (layP_len (by rw [le32_len];decide) (by rw [ho1.len];exact Nat.mul_le_mul_right _ (by rw [hD1];exact hp)))
 obtain ⟨D2,hD2⟩:∃ D2:Dsk,D2 = { D1 with b:=layP D1.b p (le32 (nxfP D D.free.length)) }:=⟨_,rfl⟩
 rw [<-hD2] at h3
 have hlb:D2.b.length=D.b.length:=by
  rw [hD2,hD1]
  exact layP_len (by rw [le32_len];decide) (by rw [ho.len];exact Nat.mul_le_mul_right _ hp)
 have hd:=h.hd
 have hDc:D1.cs B cB fv I cI = [.msl B 0 D.b.length cB,.int .i64 D.most,fv,.msl I 0 D.isF.length cI,.int .i64 D.rl,.int .i64 D.wl,.int .i64 D.rd,.int .i64 (upP D.pt)]:=by rw [hD1];rfl
 have hDc2:∀ fv,D2.cs B cB fv I cI = [.msl B 0 D.b.length cB,.int .i64 D.most,fv,.msl I 0 D.isF.length cI,.int .i64 D.rl,.int .i64 D.wl,.int .i64 D.rd,.int .i64 (upP D.pt)]:=fun fv=>by
  unfold Dsk.cs
  rw [hlb,hD2,hD1]
 obtain ⟨τ1,hτ1⟩:∃ τ,τ=σ.set d (some (.obj (D1.cs B cB fv I cI))):=⟨_,rfl⟩
 rw [<-hτ1] at hlay h3 hnx
 have hds:σ.set d (some (.obj [.msl B 0 D.b.length cB,.int .i64 D.most,fv,.msl I 0 D.isF.length cI,.int .i64 D.rl,.int .i64 D.wl,.int .i64 D.rd,.int .i64 (upP D.pt)]))=τ1:=by rw [hτ1,hDc]
 have hd1:τ1 d=some (.obj [.msl B 0 D.b.length cB,.int .i64 D.most,fv,.msl I 0 D.isF.length cI,.int .i64 D.rl,.int .i64 D.wl,.int .i64 D.rd,.int .i64 (upP D.pt)]):=by rw [<-hds];exact ASt.set_same _ _ _
 have hlen:lenC fv=some (.int .i64 D.free.length):=by
  rcases h.hF with ⟨hfr,x,_⟩|⟨cF,rF,x1,_⟩
  ·rw [x,hfr];rfl
  ·rw [x1];rfl
 have hup:IntKind.wrap .i64 (D.pt+1)=upP D.pt:=rfl
 unfold Dsk.cs at hd
 obtain ⟨τ2,hτ2⟩:∃ τ,τ=τ1.set B (some (.obj (bytesAV (layP D1.b p (le32 (nxfP D D.free.length)))++rB))):=⟨_,rfl⟩
 rw [<-hτ2] at h3 hlay
 have hd2:=h3.hd
 rw [hDc2] at hd2
 have hg:=fun (K:AV->ASt->Prop) (e:TypeId) (kl:SK)=>h3.growG (p:=p) (K:=K) (e:=e) (kl:=kl) (by rw [hD2,hD1];show D.free.length<=100000;omega)
 refine a123 (by simp) ?_
 simp (disch:=first|assumption|omega|(simp only [List.length_append,List.length_cons,List.length_nil];omega)) only [go_sem]
 refine hh.mono ?_
 rintro v σ1 ⟨rfl,rfl⟩
 simp (disch:=first|assumption|omega|(simp only [List.length_append,List.length_cons,List.length_nil];omega)) only [go_sem]
 refine hf.mono ?_
 rintro v σ1 ⟨rfl,rfl⟩
 simp (disch:=first|assumption|omega|(simp only [List.length_append,List.length_cons,List.length_nil];omega)) only [go_sem,hd,hup,hds,hd1,hlen]
 refine hnx.mono ?_
 rintro v σ1 ⟨rfl,rfl⟩
 simp (disch:=first|assumption|omega|(simp only [List.length_append,List.length_cons,List.length_nil];omega)) only [go_sem]
 refine hlay.mono ?_
 rintro v σ1 ⟨rfl,rfl⟩
 simp (disch:=first|assumption|omega|(simp only [List.length_append,List.length_cons,List.length_nil];omega)) only [go_sem,hd2]
 have hf2:D2.free=D.free:=by rw [hD2,hD1]
 rw [hf2] at hg
 refine hg _ _ _ fun F' c' τ3 hτd h4=>?_
 rw [hDc2] at hτd h4
 obtain ⟨τ4,hτ4⟩:∃ τ,τ=τ3.set d (some (.obj [.msl B 0 D.b.length cB,.int .i64 D.most,.msl F' 0 (D.free.length+1) c',.msl I 0 D.isF.length cI,.int .i64 D.rl,.int .i64 D.wl,.int .i64 D.rd,.int .i64 (upP D.pt)])):=⟨_,rfl⟩
 rw [<-hτ4] at h4
 have hd4:τ4 d=some (.obj [.msl B 0 D.b.length cB,.int .i64 D.most,.msl F' 0 (D.free.length+1) c',.msl I 0 D.isF.length cI,.int .i64 D.rl,.int .i64 D.wl,.int .i64 D.rd,.int .i64 (upP D.pt)]):=by rw [hτ4];exact ASt.set_same _ _ _
 have hI4:=h4.hI
 have hi4:({ D2 with free:=D.free ++ [p] }:Dsk).isF=D.isF:=by rw [hD2,hD1]
 have h5:=h4.mark (p:=p) (by rw [hi4];exact hp) true
 rw [hi4] at hI4 h5
 have hml:p+1<=(D.isF.map AV.bool++rI).length:=by rw [List.length_append,List.length_map];omega
 have hfin:({ ({ D2 with free:=D.free ++ [p] }:Dsk) with isF:=D.isF.set p true }:Dsk)=gaveG D p:=by rw [hD2,hD1];rfl
 rw [hfin] at h5
 generalize D.isF.map AV.bool++rI=MI at *
 have i2:(p:Int)<(D.isF.length:Int):=by omega
 simp (disch:=first|assumption|omega|(simp only [List.length_append,List.length_cons,List.length_nil];omega)) only [go_sem,hτd]
 rw [<-hτ4]
 simp (disch:=first|assumption|omega|(simp only [List.length_append,List.length_cons,List.length_nil];omega)) only [go_sem,hd4,hI4,hml,Nat.zero_add,Int.toNat_natCast]
 exact retC_by (.refl _) (.refl _) ⟨rfl,_,_,_,_,_,_,_,_,h5⟩
theorem DM.dropG (h:DM σ0 d D σ B cB rB fv F I cI rI) {p:Nat} {l:List Nat} (hf:D.free=l ++ [p]):∃ cF rF,fv = .msl F 0 (l.length+1) cF/\l.length+1<=cF/\σ F=some (.obj (freeV l++([.int .i64 p]++rF)))/\DM σ0 d { D with free:=l } (σ.set d (some (.obj (D.cs B cB (.msl F 0 l.length cF) I cI)))) B cB rB (.msl F 0 l.length cF) F I cI rI:=by
 have hnl:(l ++ [p]).length=l.length+1:=by rw [List.length_append];rfl
 rcases h.hF with ⟨x1,_⟩|⟨cF,rF,x1,x2,x3,x4,x5,x6,x7,x8⟩
 ·rw [hf] at x1;simp at x1
 ·rw [hf,hnl] at x1
  rw [hf,freeV_app,List.append_assoc] at x2
  rw [hf,hnl] at x3 x4
  refine ⟨cF,rF,x1,x3,x2,⟨ASt.set_same _ _ _,?_,?_,h.cB,h.cI,.inr ⟨cF,[.int .i64 p]++rF,rfl,?_,by show l.length<=cF;omega,?_,x5,x6,x7,x8⟩,h.n1,h.n2,h.n3,h.z1,h.z2,h.z3,?_⟩⟩
  ·rw [ASt.set_ne (Ne.symm h.n1)];exact h.hB
  ·rw [ASt.set_ne (Ne.symm h.n2)];exact h.hI
  ·rw [ASt.set_ne x5,x2];rfl
  ·show ([AV.int .i64 (p:Int)]++rF).length=cF-l.length
   rw [List.length_append,x4]
   show 1+(cF-(l.length+1))=cF-l.length
   omega
  ·intro x h1 h2 h3 h4
   rw [ASt.set_ne h1]
   exact h.out x h1 h2 h3 h4
set_option maxHeartbeats 1000000 in
theorem dktake_fg (h:DM σ0 d D σ B cB rB fv F I cI rI) (hck:CkT σ0) (ho:D.ok) {p:Nat} {l:List Nat} (hfree:D.free=l ++ [p]) (hwl:D.wl = -1) :
  ACalls Tryz.prog 14 [.ptr d 0] σ fun v σ'=>v = .tuple [.int .i64 p,.int .i64 0]/\DiskAt σ0 d (retookG D p l) σ':=by
 have hm:=ho.most
 have hwr:=wrap64_rng (D.pt+1)
 have hfew:=ho.few
 have hp:p<D.isF.length:=ho.free p (by rw [hfree];simp)
 have hro:=dkroom_ok h ho
 have hf:=dkfailW_ok h ho
 have hfd:failD D.wl=(-1,0):=by rw [hwl];rfl
 have hDw:({ D with wl := -1 }:Dsk)=D:=by rw [<-hwl]
 rw [hfd] at hf
 dsimp only at hf
 rw [hDw] at hf
 have hset:σ.set d (some (.obj (D.cs B cB fv I cI)))=σ:=by
  funext x
  by_cases hx:x=d
  ·rw [hx,ASt.set_same,h.hd]
  ·rw [ASt.set_ne hx]
 rw [hset] at hf
 obtain ⟨D1,hD1⟩:∃ D1:Dsk,D1 = { D with pt:=upP D.pt }:=⟨_,rfl⟩
 have h1:=h.cells (D':=D1) (by rw [hD1]) (by rw [hD1]) (by rw [hD1])
 have ho1:D1.ok:=by
  rw [hD1]
  exact ⟨ho.len,ho.one,ho.most,ho.free,ho.few,ho.rl,ho.wl,ho.rd,hwr⟩
 have hi1:D1.isF=D.isF:=by rw [hD1]
 have hb1:D1.b=D.b:=by rw [hD1]
 have hcnt:=dkcount_ok h1 ho1
 rw [hi1] at hcnt
 have hd:=h.hd
 have hDc:∀ fv,D1.cs B cB fv I cI = [.msl B 0 D.b.length cB,.int .i64 D.most,fv,.msl I 0 D.isF.length cI,.int .i64 D.rl,.int .i64 D.wl,.int .i64 D.rd,.int .i64 (upP D.pt)]:=fun fv=>by rw [hD1];rfl
 have hnl:(l ++ [p]).length=l.length+1:=by rw [List.length_append];rfl
 rw [hfree,hnl] at hro hfew
 have e0:¬ (D.most-(D.isF.length:Int)+((l.length+1:Nat):Int))=0:=by omega
 obtain ⟨cF,rF,hfv,hcF,hFm,h2⟩:=h1.dropG (p:=p) (l:=l) (by rw [hD1];exact hfree)
 subst hfv
 rw [ASt.set_set] at h2
 obtain ⟨D2,hD2⟩:∃ D2:Dsk,D2 = { D1 with free:=l }:=⟨_,rfl⟩
 rw [<-hD2] at h2
 have hi2:D2.isF=D.isF:=by rw [hD2,hD1]
 have h3:=h2.mark (p:=p) (by rw [hi2];exact hp) false
 obtain ⟨D3,hD3⟩:∃ D3:Dsk,D3 = { D2 with isF:=D2.isF.set p false }:=⟨_,rfl⟩
 rw [<-hD3] at h3
 have hl3:D3.isF.length=D.isF.length:=by rw [hD3];show (D2.isF.set p false).length=_;rw [List.length_set,hi2]
 have hb3:D3.b=D.b:=by rw [hD3,hD2,hD1]
 have ho3:D3.ok:=by
  refine ⟨?_,?_,?_,?_,?_,?_,?_,?_,?_⟩
  ·rw [hb3,hl3];exact ho.len
  ·rw [hl3];exact ho.one
  ·rw [hl3,hD3,hD2,hD1];exact ho.most
  ·rw [hl3,hD3,hD2]
   intro q hq
   have hq:q∈l:=hq
   exact ho.free q (by rw [hfree];simp [hq])
  ·rw [hl3,hD3,hD2];show l.length<=D.isF.length;omega
  ·rw [hD3,hD2,hD1];exact ho.rl
  ·rw [hD3,hD2,hD1];exact ho.wl
  ·rw [hD3,hD2,hD1];exact ho.rd
  ·rw [hD3,hD2,hD1];exact hwr
 have hlay:=dklay_ok (h3.at hck) h3 ho3 (p:=p) (by rw [hl3];exact hp) (s := []) (by decide)
 have h4:=h3.lay (b':=layP D3.b p []) (layP_len (by decide) (by rw [hb3,ho.len];exact Nat.mul_le_mul_right _ hp))
 have hfin:({ D3 with b:=layP D3.b p [] }:Dsk)=retookG D p l:=by rw [hD3,hD2,hD1];rfl
 rw [hfin] at h4
 have hI2:=h2.hI
 rw [hi2] at hI2 h3 h4 hlay
 have hd1:=h1.hd
 rw [hDc] at hd1 hFm hcnt h1
 have hd2:=h2.hd
 have hDc2:D2.cs B cB (.msl F 0 l.length cF) I cI = [.msl B 0 D.b.length cB,.int .i64 D.most,.msl F 0 l.length cF,.msl I 0 D.isF.length cI,.int .i64 D.rl,.int .i64 D.wl,.int .i64 D.rd,.int .i64 (upP D.pt)]:=by rw [hD2,hD1];rfl
 rw [hDc2] at hd2
 rw [hDc] at hd2 hI2 h2 h3 h4 hlay
 have hml:p+1<=(D.isF.map AV.bool++rI).length:=by rw [List.length_append,List.length_map];omega
 have hlc:(l.length:Int)<=(cF:Int):=by omega
 have hln:(l.length:Int)<=60000:=by omega
 have hF0:(freeV l++([AV.int .i64 (p:Int)]++rF))[l.length]? = some (.int .i64 p):=by
  rw [List.getElem?_append_right (by rw [freeV_len];exact Nat.le_refl _),freeV_len,Nat.sub_self]
  rfl
 have e1:((l.length:Int)+1-1).toNat=l.length:=by omega
 have e2:((l.length+1:Nat):Int)=(l.length:Int)+1:=rfl
 have e3:(0:Int)<(l.length:Int)+1:=by omega
 have e4:(l.length:Int)+1-1=(l.length:Int):=by omega
 generalize D.isF.map AV.bool++rI=MI at *
 generalize freeV l++([AV.int .i64 (p:Int)]++rF)=MF at *
 have hds:σ.set d (some (.obj [.msl B 0 D.b.length cB,.int .i64 D.most,.msl F 0 (l.length+1) cF,.msl I 0 D.isF.length cI,.int .i64 D.rl,.int .i64 D.wl,.int .i64 D.rd,.int .i64 (upP D.pt)]))=σ.set d (some (.obj [.msl B 0 D.b.length cB,.int .i64 D.most,.msl F 0 (l.length+1) cF,.msl I 0 D.isF.length cI,.int .i64 D.rl,.int .i64 D.wl,.int .i64 D.rd,.int .i64 (upP D.pt)])):=rfl
 obtain ⟨τ1,hτ1⟩:∃ τ,τ=σ.set d (some (.obj [.msl B 0 D.b.length cB,.int .i64 D.most,.msl F 0 (l.length+1) cF,.msl I 0 D.isF.length cI,.int .i64 D.rl,.int .i64 D.wl,.int .i64 D.rd,.int .i64 (upP D.pt)])):=⟨_,rfl⟩
 rw [<-hτ1] at hd1 hFm hcnt
 obtain ⟨τ2,hτ2⟩:∃ τ,τ=σ.set d (some (.obj [.msl B 0 D.b.length cB,.int .i64 D.most,.msl F 0 l.length cF,.msl I 0 D.isF.length cI,.int .i64 D.rl,.int .i64 D.wl,.int .i64 D.rd,.int .i64 (upP D.pt)])):=⟨_,rfl⟩
 rw [<-hτ2] at hd2 hI2 h3 h4 hlay
 have hst:τ1.set d (some (.obj [.msl B 0 D.b.length cB,.int .i64 D.most,.msl F 0 l.length cF,.msl I 0 D.isF.length cI,.int .i64 D.rl,.int .i64 D.wl,.int .i64 D.rd,.int .i64 (upP D.pt)]))=τ2:=by rw [hτ1,ASt.set_set,hτ2]
 have i2:(p:Int)<(D.isF.length:Int):=by omega
 unfold Dsk.cs at hd
 have hup:IntKind.wrap .i64 (D.pt+1)=upP D.pt:=rfl
 refine a14 (by simp) ?_
 simp (disch:=first|assumption|omega|(simp only [List.length_append,List.length_cons,List.length_nil];omega)) only [go_sem]
 refine hro.mono ?_
 rintro v σ' ⟨rfl,rfl⟩
 simp (disch:=first|assumption|omega|(simp only [List.length_append,List.length_cons,List.length_nil];omega)) only [go_sem,e0,hd]
 refine hf.mono ?_
 rintro v σ'' ⟨rfl,rfl⟩
 simp (disch:=first|assumption|omega|(simp only [List.length_append,List.length_cons,List.length_nil];omega)) only [go_sem,hd,hup]
 rw [<-hτ1]
 refine hcnt.mono ?_
 rintro v σ'' ⟨rfl,rfl⟩
 simp (disch:=first|assumption|omega|(simp only [List.length_append,List.length_cons,List.length_nil];omega)) only [go_sem,hd1,hFm,e2,e4,hF0,hst,hd2,hI2,hml,Nat.sub_zero,Nat.zero_add,Nat.zero_mul,Int.toNat_natCast]
 refine hlay.mono ?_
 rintro v σ6 ⟨rfl,rfl⟩
 simp (disch:=first|assumption|omega|(simp only [List.length_append,List.length_cons,List.length_nil];omega)) only [go_sem]
 exact retC_by (.refl _) (.refl _) ⟨rfl,_,_,_,_,_,_,_,_,h4⟩
def tookG (D:Dsk):Dsk := { D with b:=layP (D.b++List.replicate 512 0) D.isF.length [],isF:=D.isF ++ [false],pt:=upP D.pt }
theorem tookG_ok (ho:D.ok) (hroom:(D.isF.length:Int)<D.most):(tookG D).ok:=by
 have hl:=ho.len
 have hm:=ho.most
 have hnl:(D.isF ++ [false]).length=D.isF.length+1:=by rw [List.length_append];rfl
 have hbl:(D.b++List.replicate 512 0).length=(D.isF.length+1)*512:=by rw [List.length_append,List.length_replicate];omega
 refine ⟨?_,?_,?_,?_,?_,ho.rl,ho.wl,ho.rd,?_⟩
 ·show (layP (D.b++List.replicate 512 0) D.isF.length []).length=(D.isF ++ [false]).length*512
  rw [layP_len (by decide) (by rw [hbl];exact Nat.le_refl _),hbl,hnl]
 ·show 1<=(D.isF ++ [false]).length
  omega
 ·show ((D.isF ++ [false]).length:Int)<=D.most/\D.most<=60000
  omega
 ·intro p hp
  have:=ho.free p hp
  show p<(D.isF ++ [false]).length
  omega
 ·show D.free.length<=(D.isF ++ [false]).length
  have:=ho.few
  omega
 ·exact wrap64_rng _
set_option maxHeartbeats 1000000 in
theorem dktake_ng (hT:CkT σ) (h:DM σ0 d D σ B cB rB fv F I cI rI) (hck:CkT σ0) (ho:D.ok) (hfree:D.free = []) (hroom:(D.isF.length:Int)<D.most) (hwl:D.wl = -1) :
  ACalls Tryz.prog 14 [.ptr d 0] σ fun v σ'=>v = .tuple [.int .i64 D.isF.length,.int .i64 0]/\DiskAt σ0 d (tookG D) σ':=by
 have hm:=ho.most
 have hbl:=ho.len
 have hwr:=wrap64_rng (D.pt+1)
 have hup:IntKind.wrap .i64 (D.pt+1)=upP D.pt:=rfl
 have hro:=dkroom_ok h ho
 have hf:=dkfailW_ok h ho
 have hfd:failD D.wl=(-1,0):=by rw [hwl];rfl
 have hDw:({ D with wl := -1 }:Dsk)=D:=by rw [<-hwl]
 rw [hfd] at hf
 dsimp only at hf
 rw [hDw] at hf
 have hset:σ.set d (some (.obj (D.cs B cB fv I cI)))=σ:=by
  funext x
  by_cases hx:x=d
  ·rw [hx,ASt.set_same,h.hd]
  ·rw [ASt.set_ne hx]
 rw [hset] at hf
 obtain ⟨D1,hD1⟩:∃ D1:Dsk,D1 = { D with pt:=upP D.pt }:=⟨_,rfl⟩
 have h1:=h.cells (D':=D1) (by rw [hD1]) (by rw [hD1]) (by rw [hD1])
 have ho1:D1.ok:=by
  rw [hD1]
  exact ⟨ho.len,ho.one,ho.most,ho.free,ho.few,ho.rl,ho.wl,ho.rd,hwr⟩
 have hcnt:=dkcount_ok h1 ho1
 have hd:=h.hd
 have hd1:=h1.hd
 have hDc:D1.cs B cB fv I cI = [.msl B 0 D.b.length cB,.int .i64 D.most,fv,.msl I 0 D.isF.length cI,.int .i64 D.rl,.int .i64 D.wl,.int .i64 D.rd,.int .i64 (upP D.pt)]:=by rw [hD1];rfl
 rw [hfree,List.length_nil] at hro
 have e0:¬ (D.most-(D.isF.length:Int)+((0:Nat):Int))=0:=by omega
 have hi1:D1.isF=D.isF:=by rw [hD1]
 have hb1:D1.b=D.b:=by rw [hD1]
 have hfl:lenC fv=some (.int .i64 0):=by
  rcases h.hF with ⟨_,x,_⟩|⟨cF,rF,x1,_⟩
  ·rw [x];rfl
  ·rw [x1,hfree];rfl
 obtain ⟨τ1,hτ1⟩:∃ τ,τ=σ.set d (some (.obj (D1.cs B cB fv I cI))):=⟨_,rfl⟩
 rw [<-hτ1] at h1 hcnt hd1
 have hds:σ.set d (some (.obj [.msl B 0 D.b.length cB,.int .i64 D.most,fv,.msl I 0 D.isF.length cI,.int .i64 D.rl,.int .i64 D.wl,.int .i64 D.rd,.int .i64 (upP D.pt)]))=τ1:=by rw [hτ1,hDc]
 rw [hDc] at hd1
 rw [hi1] at hcnt
 unfold Dsk.cs at hd
 refine a14 (by simp) ?_
 simp (disch:=first|assumption|omega|(simp only [List.length_append,List.length_cons,List.length_nil];omega)) only [go_sem]
 refine hro.mono ?_
 rintro v σ' ⟨rfl,rfl⟩
 simp (disch:=first|assumption|omega|(simp only [List.length_append,List.length_cons,List.length_nil];omega)) only [go_sem,e0,hd]
 refine hf.mono ?_
 rintro v σ'' ⟨rfl,rfl⟩
 simp (disch:=first|assumption|omega|(simp only [List.length_append,List.length_cons,List.length_nil];omega)) only [go_sem,hd,hup,hds]
 refine hcnt.mono ?_
 rintro v σ'' ⟨rfl,rfl⟩
 simp (disch:=first|assumption|omega|(simp only [List.length_append,List.length_cons,List.length_nil];omega)) only [go_sem,hd1,hfl]
 have hlb:D.b.length=D1.b.length:=by rw [hb1]
 rw [hlb]
 refine h1.growB (by rw [hb1];omega) fun B' cB' rB' τ2 hτd h2=>?_
 rw [hDc,hlb] at hτd
 obtain ⟨D2,hD2⟩:∃ D2:Dsk,D2 = { D1 with b:=D1.b++List.replicate 512 0 }:=⟨_,rfl⟩
 rw [<-hD2] at h2
 have hDc2:D2.cs B' cB' fv I cI = [.msl B' 0 (D1.b.length+512) cB',.int .i64 D.most,fv,.msl I 0 D.isF.length cI,.int .i64 D.rl,.int .i64 D.wl,.int .i64 D.rd,.int .i64 (upP D.pt)]:=by
  have e:(D1.b++List.replicate 512 0).length=D1.b.length+512:=by rw [List.length_append,List.length_replicate]
  rw [hD2]
  unfold Dsk.cs
  dsimp only
  rw [e,hD1]
 obtain ⟨τ3,hτ3⟩:∃ τ,τ=τ2.set d (some (.obj (D2.cs B' cB' fv I cI))):=⟨_,rfl⟩
 rw [<-hτ3] at h2
 rw [hDc2] at hτ3
 have hd3:=h2.hd
 rw [hDc2] at hd3
 have hi2:D2.isF=D.isF:=by rw [hD2,hD1]
 simp (disch:=first|assumption|omega|(simp only [List.length_append,List.length_cons,List.length_nil];omega)) only [go_sem,hτd,ASt.set_set]
 rw [<-hτ3]
 have hg2:=fun (K:AV->ASt->Prop) (e:TypeId)=>h2.growI (K:=K) (e:=e) (by rw [hi2];omega)
 rw [hi2] at hg2
 refine hg2 _ (0:TypeId) fun I' cI' rI' τ4 hτd4 h4=>?_
 rw [hDc2] at hτd4
 obtain ⟨D3,hD3⟩:∃ D3:Dsk,D3 = { D2 with isF:=D.isF ++ [false] }:=⟨_,rfl⟩
 rw [<-hD3] at h4
 have hDc3:D3.cs B' cB' fv I' cI' = [.msl B' 0 (D1.b.length+512) cB',.int .i64 D.most,fv,.msl I' 0 (D.isF.length+1) cI',.int .i64 D.rl,.int .i64 D.wl,.int .i64 D.rd,.int .i64 (upP D.pt)]:=by
  have e:(D1.b++List.replicate 512 0).length=D1.b.length+512:=by rw [List.length_append,List.length_replicate]
  have e2:(D.isF ++ [false]).length=D.isF.length+1:=by rw [List.length_append];rfl
  rw [hD3]
  unfold Dsk.cs
  dsimp only
  rw [e2,hD2]
  dsimp only
  rw [e,hD1]
 obtain ⟨τ5,hτ5⟩:∃ τ,τ=τ4.set d (some (.obj (D3.cs B' cB' fv I' cI'))):=⟨_,rfl⟩
 rw [<-hτ5] at h4
 rw [hDc3] at hτ5
 have hck5:CkT τ5:=h4.at hck
 have e2:(D.isF ++ [false]).length=D.isF.length+1:=by rw [List.length_append];rfl
 have hi3:D3.isF=D.isF ++ [false]:=by rw [hD3]
 have hb3:D3.b=D.b++List.replicate 512 0:=by rw [hD3,hD2,hD1]
 have ho3:D3.ok:=by
  refine ⟨?_,?_,?_,?_,?_,?_,?_,?_,?_⟩
  ·rw [hb3,hi3,e2,List.length_append,List.length_replicate];omega
  ·rw [hi3,e2];omega
  ·rw [hi3,e2,hD3,hD2,hD1];show ((D.isF.length+1:Nat):Int)<=D.most/\D.most<=60000;omega
  ·rw [hD3,hD2,hD1]
   intro p hp
   have hp:p∈D.free:=hp
   rw [hfree] at hp
   cases hp
  ·rw [hi3,e2,hD3,hD2,hD1];show D.free.length<=_;rw [hfree];exact Nat.zero_le _
  ·rw [hD3,hD2,hD1];exact ho.rl
  ·rw [hD3,hD2,hD1];exact ho.wl
  ·rw [hD3,hD2,hD1];exact ho.rd
  ·rw [hD3,hD2,hD1];exact hwr
 have hlay:=dklay_ok hck5 h4 ho3 (p:=D.isF.length) (by rw [hi3,e2];omega) (s := []) (by decide)
 have h6:=h4.lay (b':=layP D3.b D.isF.length []) (layP_len (by decide) (by rw [hb3,List.length_append,List.length_replicate];omega))
 have hfin:({ D3 with b:=layP D3.b D.isF.length [] }:Dsk)=tookG D:=by rw [hb3,hD3,hD2,hD1];rfl
 rw [hfin] at h6
 simp (disch:=first|assumption|omega|(simp only [List.length_append,List.length_cons,List.length_nil];omega)) only [go_sem,hτd4,ASt.set_set]
 rw [<-hτ5]
 refine hlay.mono ?_
 rintro v σ6 ⟨rfl,rfl⟩
 simp (disch:=first|assumption|omega|(simp only [List.length_append,List.length_cons,List.length_nil];omega)) only [go_sem]
 exact retC_by (.refl _) (.refl _) ⟨rfl,B',cB',rB',fv,F,I',cI',rI',h6⟩
def wroteG (D:Dsk) (p:Nat) (s:List UInt8):Dsk := { D with b:=layP D.b p s,pt:=upP D.pt }
theorem wroteG_ok (ho:D.ok) {p:Nat} (hp:p<D.isF.length) {s:List UInt8} (hs:s.length<=504):(wroteG D p s).ok:=by
 have hl:=ho.len
 have hwr:=wrap64_rng (D.pt+1)
 have hup:IntKind.wrap .i64 (D.pt+1)=upP D.pt:=rfl
 refine ⟨?_,ho.one,ho.most,ho.free,ho.few,ho.rl,ho.wl,ho.rd,hwr⟩
 show (layP D.b p s).length=D.isF.length*512
 rw [layP_len hs (by rw [hl];exact Nat.mul_le_mul_right _ hp),hl]
theorem dkwrite_g (hT:CkT σ) (h:DM σ0 d D σ B cB rB fv F I cI rI) (hck:CkT σ0) (ho:D.ok) (hwl:D.wl = -1) {p:Nat} (h1:1<=p) (hp:p<D.isF.length) (hx:D.isF[p]? = some false) {s:List UInt8} (hs:s.length=504) :
  ACalls Tryz.prog 107 [.ptr d 0,.int .i64 p,.str s] σ fun v σ'=>v = .int .i64 0/\DiskAt σ0 d (wroteG D p s) σ':=by
 have hwr:=wrap64_rng (D.pt+1)
 have hup:IntKind.wrap .i64 (D.pt+1)=upP D.pt:=rfl
 have hm:=ho.most
 have hh:=dkhas_ok h.lm ho.len (by omega) rfl h1 hp hx
 have hf:=dkfailW_ok h ho
 have hfd:failD D.wl=(-1,0):=by rw [hwl];rfl
 have hDw:({ D with wl := -1 }:Dsk)=D:=by rw [<-hwl]
 rw [hfd] at hf
 dsimp only at hf
 rw [hDw] at hf
 have hset:σ.set d (some (.obj (D.cs B cB fv I cI)))=σ:=by
  funext x
  by_cases hx:x=d
  ·rw [hx,ASt.set_same,h.hd]
  ·rw [ASt.set_ne hx]
 rw [hset] at hf
 obtain ⟨D1,hD1⟩:∃ D1:Dsk,D1 = { D with pt:=upP D.pt }:=⟨_,rfl⟩
 have h2:=h.cells (D':=D1) (by rw [hD1]) (by rw [hD1]) (by rw [hD1])
 have ho1:D1.ok:=by
  rw [hD1]
  exact ⟨ho.len,ho.one,ho.most,ho.free,ho.few,ho.rl,ho.wl,ho.rd,hwr⟩
 have hlay:=dklay_ok (h2.at hck) h2 ho1 (p:=p) (by rw [hD1];exact hp) (s:=s) (by omega)
 have h3:=h2.lay (b':=layP D1.b p s) (layP_len (by omega) (by rw [ho1.len];exact Nat.mul_le_mul_right _ (by rw [hD1];exact hp)))
 have hfin:({ D1 with b:=layP D1.b p s }:Dsk)=wroteG D p s:=by rw [hD1];rfl
 rw [hfin] at h3
 have hd:=h.hd
 have hDc:D1.cs B cB fv I cI = [.msl B 0 D.b.length cB,.int .i64 D.most,fv,.msl I 0 D.isF.length cI,.int .i64 D.rl,.int .i64 D.wl,.int .i64 D.rd,.int .i64 (upP D.pt)]:=by rw [hD1];rfl
 obtain ⟨τ1,hτ1⟩:∃ τ,τ=σ.set d (some (.obj (D1.cs B cB fv I cI))):=⟨_,rfl⟩
 rw [<-hτ1] at hlay h3
 have hds:σ.set d (some (.obj [.msl B 0 D.b.length cB,.int .i64 D.most,fv,.msl I 0 D.isF.length cI,.int .i64 D.rl,.int .i64 D.wl,.int .i64 D.rd,.int .i64 (upP D.pt)]))=τ1:=by rw [hτ1,hDc]
 unfold Dsk.cs at hd
 have hs':(s.length:Int)=504:=by omega
 refine a107 (by simp) ?_
 simp (disch:=first|assumption|omega|(simp only [List.length_append,List.length_cons,List.length_nil];omega)) only [go_sem]
 refine hh.mono ?_
 rintro v σ1 ⟨rfl,rfl⟩
 simp (disch:=first|assumption|omega|(simp only [List.length_append,List.length_cons,List.length_nil];omega)) only [go_sem,hs']
 refine hf.mono ?_
 rintro v σ1 ⟨rfl,rfl⟩
 simp (disch:=first|assumption|omega|(simp only [List.length_append,List.length_cons,List.length_nil];omega)) only [go_sem,hd,hup,hds]
 refine hlay.mono ?_
 rintro v σ1 ⟨rfl,rfl⟩
 simp (disch:=first|assumption|omega|(simp only [List.length_append,List.length_cons,List.length_nil];omega)) only [go_sem]
 exact retC_by (.refl _) (.refl _) ⟨rfl,_,_,_,_,_,_,_,_,h3⟩
theorem dkread_g (h:DM σ0 d D σ B cB rB fv F I cI rI) (hck:CkT σ0) (ho:D.ok) (hr:D.rl = -1) {p:Nat} (h1:1<=p) (hp:p<D.isF.length) (hx:D.isF[p]? = some false) :
  ACalls Tryz.prog 101 [.ptr d 0,.int .i64 p] σ fun v σ'=>v=readAV (lookP D.b p)/\DiskAt σ0 d { D with rd:=upP D.rd } σ':=by
 have hm:=ho.most
 have hl:=ho.len
 have hh:=dkhas_ok h.lm ho.len (by omega) rfl h1 hp hx
 have hf:=dkfailR_ok h.lm hr
 have hd:=h.hd
 have h2:=h.cells (D' := { D with rd:=upP D.rd }) rfl rfl rfl
 have hT2:=h2.at hck
 have hk:=dklook_ok hT2 h2.lm (p:=p) (by show (p+1)*512<=D.b.length;rw [hl];exact Nat.mul_le_mul_right _ hp) (by omega)
 have hup:IntKind.wrap .i64 (D.rd+1)=upP D.rd:=rfl
 have hfin:DiskAt σ0 d { D with rd:=upP D.rd } (σ.set d (some (.obj ({ D with rd:=upP D.rd }.cs B cB fv I cI)))):=⟨_,_,_,_,_,_,_,_,h2⟩
 dsimp only at hk
 unfold Dsk.cs at hd hk hfin
 dsimp only at hk hfin
 refine a101 (by simp) ?_
 simp (disch:=first|assumption|omega|(simp only [List.length_append,List.length_cons,List.length_nil];omega)) only [go_sem]
 refine hh.mono ?_
 rintro v σ1 ⟨rfl,rfl⟩
 simp (disch:=first|assumption|omega|(simp only [List.length_append,List.length_cons,List.length_nil];omega)) only [go_sem,hd]
 refine hf.mono ?_
 rintro v σ1 ⟨rfl,rfl⟩
 simp (disch:=first|assumption|omega|(simp only [List.length_append,List.length_cons,List.length_nil];omega)) only [go_sem,hd,hup]
 refine hk.mono ?_
 rintro v σ1 ⟨rfl,rfl⟩
 cases lookP D.b p with
 | some s=>
   unfold lookAV readAV
   simp (disch:=first|assumption|omega|(simp only [List.length_append,List.length_cons,List.length_nil];omega)) only [go_sem]
   exact retC_by (.refl _) (.refl _) ⟨rfl,hfin⟩
 | none=>
   unfold lookAV readAV
   simp (disch:=first|assumption|omega|(simp only [List.length_append,List.length_cons,List.length_nil];omega)) only [go_sem]
   exact retC_by (.refl _) (.refl _) ⟨rfl,hfin⟩
end
end Go.A
namespace Go.A
open Go.Proofs
theorem nodup_len:∀ (n:Nat) {l:List Nat},l.Nodup->(∀ q∈l,q<n)->l.length<=n
 | 0,[],_,_=>Nat.le_refl _
 | 0,a::l,_,h=>absurd (h a List.mem_cons_self) (by omega)
 | n+1,l,hn,h=>by
   by_cases hm:n∈l
   ·have h1:=nodup_len n (hn.erase n) fun q hq=>by
     have h2:=(hn.mem_erase_iff).1 hq
     have h3:=h q h2.2
     have:=h2.1
     omega
    rw [List.length_erase_of_mem hm] at h1
    omega
   ·have:=nodup_len n hn fun q hq=>by
     have h3:=h q hq
     have:q≠n:=fun he=>hm (he▸hq)
     omega
    omega
structure DkIs (D:Dsk) (m:Int) (L:List (List UInt8)):Prop where
 ok:D.ok
 rl:D.rl = -1
 wl:D.wl = -1
 most:D.most=m
 b:D.b=imgF 0 L
 n:D.isF.length=L.length
 len:∀ s∈L,s.length<=504
 fr:∀ p∈D.free,D.isF[p]? = some true
 nd:D.free.Nodup
 one:∀ p∈D.free,1<=p
def dpg (D:Dsk) (L:List (List UInt8)) (p:Nat):Option (List UInt8):=if 1<=p/\D.isF[p]? = some false then some (padB (L.getD p [])) else none
def pset (g:Nat->Option (List UInt8)) (p:Nat) (v:Option (List UInt8)):Nat->Option (List UInt8):=fun q=>if q=p then v else g q
theorem pset_same (g:Nat->Option (List UInt8)) (p:Nat) (v:Option (List UInt8)):pset g p v p=v:=by simp [pset]
theorem pset_ne {g:Nat->Option (List UInt8)} {p q:Nat} {v:Option (List UInt8)} (h:q≠p):pset g p v q=g q:=by simp [pset,h]
section
variable {D:Dsk} {m:Int} {L:List (List UInt8)} {p:Nat} {s:List UInt8}
theorem dpg_some (h:dpg D L p=some s):1<=p/\D.isF[p]? = some false/\p<D.isF.length/\s=padB (L.getD p []):=by
 unfold dpg at h
 split at h
 ·rename_i hc
  exact ⟨hc.1,hc.2,(List.getElem?_eq_some_iff.1 hc.2).1,(Option.some.inj h).symm⟩
 ·cases h
theorem DkIs.get (h:DkIs D m L) (hp:dpg D L p=some s):L[p]? = some (L.getD p []):=by
 have h1:=(dpg_some hp).2.2.1
 rw [h.n] at h1
 rw [List.getD_eq_getElem?_getD,List.getElem?_eq_getElem h1]
 rfl
theorem DkIs.slen (h:DkIs D m L) (hp:dpg D L p=some s):s.length=504:=by
 rw [(dpg_some hp).2.2.2]
 exact padB_len (h.len _ (List.mem_of_getElem? (h.get hp)))
theorem DkIs.look (h:DkIs D m L) (hp:dpg D L p=some s):lookP D.b p=some s:=by
 obtain ⟨h1,h2,h3,h4⟩:=dpg_some hp
 have hm:=h.ok.most
 rw [h4,h.b]
 exact look_page (pg_img h.len (h.get hp)) (by omega)
theorem DkIs.wrote (h:DkIs D m L) {t:List UInt8} (hp:dpg D L p=some t) (hs:s.length=504):DkIs (wroteG D p s) m (L.set p s)/\dpg (wroteG D p s) (L.set p s)=pset (dpg D L) p (some s):=by
 obtain ⟨h1,h2,h3,h4⟩:=dpg_some hp
 have hpl:p<L.length:=by rw [<-h.n];exact h3
 refine ⟨⟨wroteG_ok h.ok h3 (by omega),h.rl,h.wl,h.most,?_,?_,?_,h.fr,h.nd,h.one⟩,?_⟩
 ·show layP D.b p s=_
  rw [h.b,lay_img h.len hpl]
 ·show D.isF.length=(L.set p s).length
  rw [List.length_set,h.n]
 ·intro x hx
  rcases List.mem_or_eq_of_mem_set hx with hx|rfl
  ·exact h.len x hx
  ·omega
 ·funext q
  unfold pset dpg
  show (if 1<=q/\D.isF[q]? = some false then some (padB ((L.set p s).getD q [])) else none)=_
  by_cases hq:q=p
  ·subst hq
   rw [if_pos ⟨h1,h2⟩,if_pos rfl,List.getD_eq_getElem?_getD,List.getElem?_set_self hpl,Option.getD_some,padB_full hs]
  ·rw [if_neg hq,List.getD_eq_getElem?_getD,List.getElem?_set_ne (Ne.symm hq),← List.getD_eq_getElem?_getD]
theorem DkIs.took (h:DkIs D m L) (hf:D.free = []) (hroom:(L.length:Int)<m):DkIs (tookG D) m (L ++ [[]])/\dpg D L L.length=none/\dpg (tookG D) (L ++ [[]])=pset (dpg D L) L.length (some (List.replicate 504 0)):=by
 have hl1:=h.ok.one
 have hn:=h.n
 have hff:∀ q,(D.isF ++ [false])[q]? = some false↔D.isF[q]? = some false\/q=D.isF.length:=by
  intro q
  by_cases hq:q<D.isF.length
  ·rw [List.getElem?_append_left hq]
   constructor
   ·exact .inl
   ·rintro (h|h)
    ·exact h
    ·omega
  ·rw [List.getElem?_append_right (by omega)]
   by_cases hq2:q=D.isF.length
   ·subst hq2;simp
   ·have:q-D.isF.length≠0:=by omega
    rw [List.getElem?_eq_none (by simp;omega),List.getElem?_eq_none (by omega)]
    simp [hq2]
 refine ⟨⟨tookG_ok h.ok (by rw [h.most,hn];exact hroom),h.rl,h.wl,h.most,?_,?_,?_,?_,?_,?_⟩,?_,?_⟩
 ·show layP (D.b++List.replicate 512 0) D.isF.length []=_
  rw [h.b,hn,lay_new h.len]
 ·show (D.isF ++ [false]).length=(L ++ [[]]).length
  rw [List.length_append,List.length_append,hn]
  rfl
 ·intro x hx
  rcases List.mem_append.1 hx with hx|hx
  ·exact h.len x hx
  ·rw [List.mem_singleton.1 hx];decide
 ·intro p hp
  have hp:p∈D.free:=hp
  rw [hf] at hp;cases hp
 ·show D.free.Nodup
  rw [hf];exact List.nodup_nil
 ·intro p hp
  have hp:p∈D.free:=hp
  rw [hf] at hp;cases hp
 ·unfold dpg
  rw [if_neg]
  rintro ⟨_,h2⟩
  have:=(List.getElem?_eq_some_iff.1 h2).1
  omega
 ·funext q
  unfold pset dpg
  show (if 1<=q/\(D.isF ++ [false])[q]? = some false then some (padB ((L ++ [[]]).getD q [])) else none)=_
  by_cases hq:q=L.length
  ·subst hq
   rw [if_pos ⟨by omega,(hff _).2 (.inr hn.symm)⟩,if_pos rfl,List.getD_eq_getElem?_getD,List.getElem?_append_right (Nat.le_refl _),Nat.sub_self]
   rfl
  ·rw [if_neg hq]
   have e:(L ++ [[]]).getD q []=L.getD q []:=by
    rw [List.getD_eq_getElem?_getD,List.getD_eq_getElem?_getD]
    by_cases hq2:q<L.length
    ·rw [List.getElem?_append_left hq2]
    ·rw [List.getElem?_append_right (by omega),List.getElem?_eq_none (l:=L) (by omega),List.getElem?_eq_none (by simp;omega)]
   rw [e]
   by_cases hc:1<=q/\D.isF[q]? = some false
   ·rw [if_pos hc,if_pos ⟨hc.1,(hff q).2 (.inl hc.2)⟩]
   ·rw [if_neg hc,if_neg]
    rintro ⟨h1,h2⟩
    rcases (hff q).1 h2 with h2|h2
    ·exact hc ⟨h1,h2⟩
    ·omega
theorem DkIs.retook (h:DkIs D m L) {l:List Nat} (hf:D.free=l ++ [p]):1<=p/\p<L.length/\DkIs (retookG D p l) m (L.set p [])/\dpg D L p=none/\dpg (retookG D p l) (L.set p [])=pset (dpg D L) p (some (List.replicate 504 0)):=by
 have hpm:p∈D.free:=by rw [hf];simp
 have hp1:=h.one p hpm
 have hpt:=h.fr p hpm
 have hpn:p<D.isF.length:=(List.getElem?_eq_some_iff.1 hpt).1
 have hpl:p<L.length:=by rw [<-h.n];exact hpn
 have hnd:=h.nd
 rw [hf] at hnd
 have hfew:=h.ok.few
 rw [hf,List.length_append] at hfew
 have hfew:l.length+1<=D.isF.length:=hfew
 have hne:∀ q∈l,q≠p:=fun q hq he=>by
  have:=(List.nodup_append.1 hnd).2.2 q hq p (List.mem_singleton_self p)
  exact this he
 refine ⟨hp1,hpl,⟨⟨?_,?_,?_,?_,?_,h.ok.rl,h.ok.wl,h.ok.rd,wrap64_rng _⟩,h.rl,h.wl,h.most,?_,?_,?_,?_,(List.nodup_append.1 hnd).1,fun q hq=>h.one q (by rw [hf];exact List.mem_append_left _ hq)⟩,?_,?_⟩
 ·show (layP D.b p []).length=(D.isF.set p false).length*512
  rw [layP_len (by decide) (by rw [h.ok.len];exact Nat.mul_le_mul_right _ hpn),List.length_set,h.ok.len]
 ·show 1<=(D.isF.set p false).length
  rw [List.length_set];exact h.ok.one
 ·show ((D.isF.set p false).length:Int)<=D.most/\D.most<=60000
  rw [List.length_set];exact h.ok.most
 ·intro q hq
  have hq:q∈l:=hq
  show q<(D.isF.set p false).length
  rw [List.length_set]
  exact h.ok.free q (by rw [hf];exact List.mem_append_left _ hq)
 ·show l.length<=(D.isF.set p false).length
  rw [List.length_set];omega
 ·show layP D.b p []=_
  rw [h.b,lay_img h.len hpl]
 ·show (D.isF.set p false).length=(L.set p []).length
  rw [List.length_set,List.length_set,h.n]
 ·intro x hx
  rcases List.mem_or_eq_of_mem_set hx with hx|rfl
  ·exact h.len x hx
  ·decide
 ·intro q hq
  have hq:q∈l:=hq
  show (D.isF.set p false)[q]? = some true
  rw [List.getElem?_set_ne (Ne.symm (hne q hq))]
  exact h.fr q (by rw [hf];exact List.mem_append_left _ hq)
 ·unfold dpg
  rw [if_neg]
  rintro ⟨_,h2⟩
  rw [hpt] at h2;cases h2
 ·funext q
  unfold pset dpg
  show (if 1<=q/\(D.isF.set p false)[q]? = some false then some (padB ((L.set p []).getD q [])) else none)=_
  by_cases hq:q=p
  ·subst hq
   rw [if_pos ⟨hp1,List.getElem?_set_self hpn⟩,if_pos rfl,List.getD_eq_getElem?_getD,List.getElem?_set_self hpl,Option.getD_some]
   rfl
  ·rw [if_neg hq,List.getElem?_set_ne (Ne.symm hq),List.getD_eq_getElem?_getD,List.getElem?_set_ne (Ne.symm hq),← List.getD_eq_getElem?_getD]
theorem DkIs.gave (h:DkIs D m L) (hp:dpg D L p=some s):DkIs (gaveG D p) m (L.set p (le32 (nxfP D D.free.length)))/\dpg (gaveG D p) (L.set p (le32 (nxfP D D.free.length)))=pset (dpg D L) p none:=by
 obtain ⟨h1,h2,h3,h4⟩:=dpg_some hp
 have hpl:p<L.length:=by rw [<-h.n];exact h3
 have hni:p ∉ D.free:=fun hm=>by
  have:=h.fr p hm
  rw [h2] at this;cases this
 have hfl:∀ q∈D.free ++ [p],q<D.isF.length:=fun q hq=>by
  rcases List.mem_append.1 hq with hq|hq
  ·exact h.ok.free q hq
  ·rw [List.mem_singleton.1 hq];exact h3
 have hnd:(D.free ++ [p]).Nodup:=by
  rw [List.nodup_append]
  refine ⟨h.nd,by simp,fun a ha b hb=>?_⟩
  rw [List.mem_singleton.1 hb]
  rintro rfl
  exact hni ha
 have hfew:(D.free ++ [p]).length<=D.isF.length:=by
  exact nodup_len _ hnd hfl
 refine ⟨⟨⟨?_,?_,?_,?_,?_,h.ok.rl,h.ok.wl,h.ok.rd,wrap64_rng _⟩,h.rl,h.wl,h.most,?_,?_,?_,?_,hnd,?_⟩,?_⟩
 ·show (layP D.b p (le32 (nxfP D D.free.length))).length=(D.isF.set p true).length*512
  rw [layP_len (by rw [le32_len];decide) (by rw [h.ok.len];exact Nat.mul_le_mul_right _ h3),List.length_set,h.ok.len]
 ·show 1<=(D.isF.set p true).length
  rw [List.length_set];exact h.ok.one
 ·show ((D.isF.set p true).length:Int)<=D.most/\D.most<=60000
  rw [List.length_set];exact h.ok.most
 ·intro q hq
  show q<(D.isF.set p true).length
  rw [List.length_set]
  exact hfl q hq
 ·show (D.free ++ [p]).length<=(D.isF.set p true).length
  rw [List.length_set];exact hfew
 ·show layP D.b p (le32 (nxfP D D.free.length))=_
  rw [h.b,lay_img h.len hpl]
 ·show (D.isF.set p true).length=(L.set p (le32 (nxfP D D.free.length))).length
  rw [List.length_set,List.length_set,h.n]
 ·intro x hx
  rcases List.mem_or_eq_of_mem_set hx with hx|rfl
  ·exact h.len x hx
  ·rw [le32_len];decide
 ·intro q hq
  show (D.isF.set p true)[q]? = some true
  by_cases hq2:q=p
  ·subst hq2;exact List.getElem?_set_self h3
  ·rw [List.getElem?_set_ne (Ne.symm hq2)]
   rcases List.mem_append.1 hq with hq|hq
   ·exact h.fr q hq
   ·exact absurd (List.mem_singleton.1 hq) hq2
 ·intro q hq
  have hq:q∈D.free ++ [p]:=hq
  rcases List.mem_append.1 hq with hq|hq
  ·exact h.one q hq
  ·rw [List.mem_singleton.1 hq];exact h1
 ·funext q
  unfold pset dpg
  show (if 1<=q/\(D.isF.set p true)[q]? = some false then some (padB ((L.set p (le32 (nxfP D D.free.length))).getD q [])) else none)=_
  by_cases hq:q=p
  ·subst hq
   rw [if_pos rfl,if_neg]
   rintro ⟨_,h5⟩
   rw [List.getElem?_set_self h3] at h5
   cases h5
  ·rw [if_neg hq,List.getElem?_set_ne (Ne.symm hq),List.getD_eq_getElem?_getD,List.getElem?_set_ne (Ne.symm hq),← List.getD_eq_getElem?_getD]
theorem DkIs.read (h:DkIs D m L):DkIs { D with rd:=upP D.rd } m L:=
 ⟨⟨h.ok.len,h.ok.one,h.ok.most,h.ok.free,h.ok.few,h.ok.rl,h.ok.wl,wrap64_rng _,h.ok.pt⟩,h.rl,h.wl,h.most,h.b,h.n,h.len,h.fr,h.nd,h.one⟩
end
def DkAt (σ0:ASt) (d:Nat) (m:Int) (n:Nat) (g:Nat->Option (List UInt8)) (σ:ASt):Prop:=∃ D L,DiskAt σ0 d D σ/\DkIs D m L/\L.length<=n/\g=dpg D L
section
variable {σ0 σ:ASt} {d p n:Nat} {m:Int} {g:Nat->Option (List UInt8)} {s t:List UInt8}
theorem DkAt.at (h:DkAt σ0 d m n g σ) {x:Nat} {r:Role} (hx:σ0 x=some r):σ x=some r:=by
 obtain ⟨D,L,h,_⟩:=h
 exact h.at hx
theorem DkAt.put (h:DkAt σ0 d m n g σ) {x:Nat} {q:Role} (r:Option Role) (hx:σ0 x=some q):DkAt (σ0.set x r) d m n g (σ.set x r):=by
 obtain ⟨D,L,h,h2⟩:=h
 exact ⟨D,L,h.put r hx,h2⟩
theorem DkAt.add (h:DkAt σ0 d m n g σ) {x:Nat} (r:Option Role) (hx:σ x=none):DkAt (σ0.set x r) d m n g (σ.set x r):=by
 obtain ⟨D,L,h,h2⟩:=h
 exact ⟨D,L,h.add r hx,h2⟩
theorem DkAt.gone (h:DkAt σ0 d m n g σ) {x:Nat} (hx:σ x=none):σ0 x=none:=by
 obtain ⟨D,L,h,h2⟩:=h
 exact h.gone hx
theorem DkAt.slen (h:DkAt σ0 d m n g σ) (hp:g p=some s):s.length=504:=by
 obtain ⟨D,L,_,h2,_,rfl⟩:=h
 exact h2.slen hp
theorem DkAt.rng (h:DkAt σ0 d m n g σ) (hp:g p=some s):1<=p/\p<60000:=by
 obtain ⟨D,L,_,h2,_,rfl⟩:=h
 obtain ⟨h3,_,h4,_⟩:=dpg_some hp
 have:=h2.ok.most
 omega
theorem ddhas_ok (h:DkAt σ0 d m n g σ) (hp:g p=some s):ACalls Tryz.prog 100 [.ptr d 0,.int .i64 p] σ fun v σ'=>v = .bool true/\σ'=σ:=by
 obtain ⟨D,L,⟨B,cB,rB,fv,F,I,cI,rI,h1⟩,h2,_,rfl⟩:=h
 obtain ⟨h3,h4,h5,_⟩:=dpg_some hp
 have:=h2.ok.most
 exact dkhas_ok h1.lm h2.ok.len (by omega) rfl h3 h5 h4
theorem ddread_ok (hck:CkT σ0) (h:DkAt σ0 d m n g σ) (hp:g p=some s):ACalls Tryz.prog 101 [.ptr d 0,.int .i64 p] σ fun v σ'=>v = .tuple [.str s,.int .i64 0]/\DkAt σ0 d m n g σ':=by
 obtain ⟨D,L,⟨B,cB,rB,fv,F,I,cI,rI,h1⟩,h2,hn,rfl⟩:=h
 obtain ⟨h3,h4,h5,_⟩:=dpg_some hp
 refine (dkread_g h1 hck h2.ok h2.rl h3 h5 h4).mono ?_
 rintro v σ' ⟨hv,hd⟩
 rw [h2.look hp] at hv
 exact ⟨hv,_,L,hd,h2.read,hn,rfl⟩
theorem ddwrite_ok (hck:CkT σ0) (h:DkAt σ0 d m n g σ) (hp:g p=some t) (hs:s.length=504):ACalls Tryz.prog 107 [.ptr d 0,.int .i64 p,.str s] σ fun v σ'=>v = .int .i64 0/\DkAt σ0 d m n (pset g p (some s)) σ':=by
 obtain ⟨D,L,⟨B,cB,rB,fv,F,I,cI,rI,h1⟩,h2,hn,rfl⟩:=h
 obtain ⟨h3,h4,h5,_⟩:=dpg_some hp
 obtain ⟨h6,h7⟩:=h2.wrote hp hs
 refine (dkwrite_g (h1.at hck) h1 hck h2.ok h2.wl h3 h5 h4 hs).mono ?_
 rintro v σ' ⟨hv,hd⟩
 exact ⟨hv,_,_,hd,h6,by rw [List.length_set];exact hn,h7.symm⟩
theorem ddtake_ok (hck:CkT σ0) (h:DkAt σ0 d m n g σ) (hroom:(n:Int)<m):ACalls Tryz.prog 14 [.ptr d 0] σ fun v σ'=>∃ p:Nat,v = .tuple [.int .i64 p,.int .i64 0]/\g p=none/\1<=p/\p<60000/\DkAt σ0 d m (n+1) (pset g p (some (List.replicate 504 0))) σ':=by
 obtain ⟨D,L,⟨B,cB,rB,fv,F,I,cI,rI,h1⟩,h2,hn,rfl⟩:=h
 have hm:=h2.ok.most
 have hmm:=h2.most
 have hnn:=h2.n
 rcases List.eq_nil_or_concat D.free with hf|⟨l,p,hf⟩
 ·obtain ⟨h3,h4,h5⟩:=h2.took hf (by omega)
  refine (dktake_ng (h1.at hck) h1 hck h2.ok hf (by rw [h2.most,h2.n];omega) h2.wl).mono ?_
  rintro v σ' ⟨hv,hd⟩
  have:=h2.ok.one
  exact ⟨L.length,by rw [hv,h2.n],h4,by omega,by omega,_,_,hd,h3,by rw [List.length_append];exact Nat.succ_le_succ hn,h5.symm⟩
 ·have hf:D.free=l ++ [p]:=by rw [hf,List.concat_eq_append]
  obtain ⟨h6,h7,h3,h4,h5⟩:=h2.retook hf
  refine (dktake_fg h1 hck h2.ok hf h2.wl).mono ?_
  rintro v σ' ⟨hv,hd⟩
  exact ⟨p,hv,h4,h6,by omega,_,_,hd,h3,by rw [List.length_set];omega,h5.symm⟩
theorem ddgive_ok (hck:CkT σ0) (h:DkAt σ0 d m n g σ) (hp:g p=some t):ACalls Tryz.prog 123 [.ptr d 0,.int .i64 p] σ fun v σ'=>v = .int .i64 0/\DkAt σ0 d m n (pset g p none) σ':=by
 obtain ⟨D,L,⟨B,cB,rB,fv,F,I,cI,rI,h1⟩,h2,hn,rfl⟩:=h
 obtain ⟨h3,h4,h5,_⟩:=dpg_some hp
 obtain ⟨h6,h7⟩:=h2.gave hp
 refine (dkgive_g h1 hck h2.ok h2.wl h3 h5 h4).mono ?_
 rintro v σ' ⟨hv,hd⟩
 exact ⟨hv,_,_,hd,h6,by rw [List.length_set];exact hn,h7.symm⟩
theorem ddnew_ok (hT:CkT σ) (pages:Int) (h1:2<=pages) (h2:pages<=60000):ACalls Tryz.prog 6 [.int .i64 pages] σ fun v σ'=>∃ d,v = .ptr d 0/\DkAt σ d pages 1 (fun _=>none) σ':=by
 refine (dknew_ok hT pages).mono ?_
 rintro v σ' ⟨d,hv,hD⟩
 have e:min (max pages 2) 60000=pages:=by omega
 rw [e] at hD
 refine ⟨d,hv,_,[headP (rawP pages)],hD,?_,Nat.le_refl 1,?_⟩
 ·have hs:=new_spD pages
  have ho:=newP_ok (m:=pages) ⟨h1,h2⟩
  rw [hs] at ho ⊢
  refine ⟨ho,rfl,rfl,rfl,rfl,rfl,?_,(fun p hp=>by cases hp),List.nodup_nil,(fun p hp=>by cases hp)⟩
  intro s hs
  rw [List.mem_singleton.1 hs,headP_len]
  decide
 ·funext p
  unfold dpg
  rw [if_neg]
  rintro ⟨h3,h4⟩
  have h5:(newP pages).isF = [false]:=rfl
  rw [h5] at h4
  have:=(List.getElem?_eq_some_iff.1 h4).1
  have:p<1:=this
  omega
end
end Go.A
namespace Go.A
open Go.Proofs
/-! Maps of numbers,plainly. -/
theorem findM_put (l:List (Int×Int)) (k v q:Int):findM (putM l k v) q=if q=k then some v else findM l q:=by
 induction l with
 | nil=>rfl
 | cons p l ih=>
   unfold putM
   split
   ·rename_i h
    subst h
    unfold findM
    by_cases hq:q=p.1
    ·subst hq;simp
    ·simp [hq]
   ·rename_i h
    unfold findM
    by_cases hq:q=p.1
    ·subst hq
     rw [if_pos rfl,if_neg (Ne.symm h),if_pos rfl]
    ·rw [if_neg hq,if_neg hq,ih]
theorem findM_none {l:List (Int×Int)} {q:Int} (h:q ∉ l.map Prod.fst):findM l q=none:=by
 induction l with
 | nil=>rfl
 | cons p l ih=>
   simp only [List.map_cons,List.mem_cons,not_or] at h
   unfold findM
   rw [if_neg h.1,ih h.2]
theorem findM_del {l:List (Int×Int)} (hn:(l.map Prod.fst).Nodup) (k q:Int):findM (delM l k) q=if q=k then none else findM l q:=by
 induction l with
 | nil=>unfold delM findM;split<;>rfl
 | cons p l ih=>
   simp only [List.map_cons,List.nodup_cons] at hn
   unfold delM
   split
   ·rename_i h
    subst h
    by_cases hq:q=p.1
    ·subst hq
     rw [if_pos rfl,findM_none hn.1]
    ·rw [if_neg hq]
     conv=>rhs;unfold findM
     rw [if_neg hq]
   ·rename_i h
    by_cases hq:q=p.1
    ·subst hq
     unfold findM
     rw [if_pos rfl,if_neg (Ne.symm h),if_pos rfl]
    ·unfold findM
     rw [if_neg hq,if_neg hq,ih hn.2]
theorem putM_keys (l:List (Int×Int)) (k v:Int):(putM l k v).map Prod.fst=if k∈l.map Prod.fst then l.map Prod.fst else l.map Prod.fst ++ [k]:=by
 induction l with
 | nil=>rfl
 | cons p l ih=>
   unfold putM
   split
   ·rename_i h
    subst h
    simp
   ·rename_i h
    simp only [List.map_cons,ih,List.mem_cons]
    by_cases hm:k∈l.map Prod.fst
    ·rw [if_pos hm,if_pos (.inr hm)]
    ·rw [if_neg hm,if_neg (by rintro (h2|h2);exact h h2;exact hm h2)]
     rfl
theorem putM_nodup {l:List (Int×Int)} (hn:(l.map Prod.fst).Nodup) (k v:Int):((putM l k v).map Prod.fst).Nodup:=by
 rw [putM_keys]
 split
 ·exact hn
 ·rename_i h
  rw [List.nodup_append]
  refine ⟨hn,by simp,fun a ha b hb=>?_⟩
  rw [List.mem_singleton.1 hb]
  rintro rfl
  exact h ha
theorem delM_sub:∀ (l:List (Int×Int)) (k:Int),(delM l k).Sublist l
 | [],k=>List.Sublist.refl _
 | p::l,k=>by
   unfold delM
   split
   ·exact List.sublist_cons_self p l
   ·exact (delM_sub l k).cons_cons p
theorem delM_nodup {l:List (Int×Int)} (hn:(l.map Prod.fst).Nodup) (k:Int):((delM l k).map Prod.fst).Nodup:=
 ((delM_sub l k).map Prod.fst).nodup hn
structure Frm where
 fa:Nat
 xa:Nat
 c:Nat
 page:Nat
 bs:List UInt8
 used:Bool
 dirty:Bool
def Frm.cs (f:Frm) (p:Nat) (pins:Int):List AV := [.ptr p 0,.int .i64 f.page,.msl f.xa 0 504 f.c,.int .i64 pins,.bool f.used,.bool f.dirty]
def frV:Option Frm->AV
 | none => .nilp
 | some f => .ptr f.fa 0
def plCs (d ra ma k:Nat) (hand pins:Int):List AV := [.ptr d 0,.msl ra 0 k k,.map (some ma),.int .i64 hand,.int .i64 pins,.bool false,.map none,.sl .full [],.sl .full []]
def pinV (pin:Option Nat) (i:Nat):Int:=if pin=some i then 1 else 0
structure PM (base σ:ASt) (p d ra ma:Nat) (own:Nat->Nat) (hand pins:Int) (fs:List (Option Frm)) (am:List (Int×Int)) (pin:Option Nat):Prop where
 hp:σ p=some (.obj (plCs d ra ma fs.length hand pins))
 hr:σ ra=some (.obj (fs.map frV))
 hm:σ ma=some (.map am)
 hf:∀ (i:Nat) (f:Frm),fs[i]? = some (some f)->σ f.fa=some (.obj (f.cs p (pinV pin i)))
 hx:∀ (i:Nat) (f:Frm),fs[i]? = some (some f)->pin≠some i->σ f.xa=some (.obj (bytesAV f.bs))
 o1:own p=0
 o2:own ra=1
 o3:own ma=2
 o4:∀ (i:Nat) (f:Frm),fs[i]? = some (some f)->own f.fa=2*i+3/\own f.xa=2*i+4
 z1:base p=none
 z2:base ra=none
 z3:base ma=none
 z4:∀ (i:Nat) (f:Frm),fs[i]? = some (some f)->base f.fa=none/\(pin≠some i->base f.xa=none)
 ext:∀ x r,base x=some r->σ x=some r
section
variable {base σ:ASt} {p d ra ma:Nat} {own:Nat->Nat} {hand pins:Int} {fs:List (Option Frm)} {am:List (Int×Int)} {pin:Option Nat}
theorem set_own {own:Nat->Nat} {x y:Nat} {r:Option Role} (h:own y≠own x):(σ.set x r) y=σ y:=ASt.set_ne fun e=>h (by rw [e])
theorem ext_set {x:Nat} {r:Option Role} (he:∀ x r,base x=some r->σ x=some r) (hx:base x=none):∀ y q,base y=some q->(σ.set x r) y=some q:=fun y q hy=>by
 have:y≠x:=fun e=>by rw [e,hx] at hy;cases hy
 rw [ASt.set_ne this];exact he y q hy
theorem PM.setP (h:PM base σ p d ra ma own hand pins fs am pin) (hand' pins':Int):PM base (σ.set p (some (.obj (plCs d ra ma fs.length hand' pins')))) p d ra ma own hand' pins' fs am pin:=by
 have o1:=h.o1;have o2:=h.o2;have o3:=h.o3
 refine ⟨ASt.set_same _ _ _,?_,?_,fun i f hi=>?_,fun i f hi hn=>?_,h.o1,h.o2,h.o3,h.o4,h.z1,h.z2,h.z3,h.z4,ext_set h.ext h.z1⟩
 ·rw [set_own (own:=own) (by omega)];exact h.hr
 ·rw [set_own (own:=own) (by omega)];exact h.hm
 ·have:=h.o4 i f hi
  rw [set_own (own:=own) (by omega)];exact h.hf i f hi
 ·have:=h.o4 i f hi
  rw [set_own (own:=own) (by omega)];exact h.hx i f hi hn
theorem PM.setM (h:PM base σ p d ra ma own hand pins fs am pin) (am':List (Int×Int)):PM base (σ.set ma (some (.map am'))) p d ra ma own hand pins fs am' pin:=by
 have o1:=h.o1;have o2:=h.o2;have o3:=h.o3
 refine ⟨?_,?_,ASt.set_same _ _ _,fun i f hi=>?_,fun i f hi hn=>?_,h.o1,h.o2,h.o3,h.o4,h.z1,h.z2,h.z3,h.z4,ext_set h.ext h.z3⟩
 ·rw [set_own (own:=own) (by omega)];exact h.hp
 ·rw [set_own (own:=own) (by omega)];exact h.hr
 ·have:=h.o4 i f hi
  rw [set_own (own:=own) (by omega)];exact h.hf i f hi
 ·have:=h.o4 i f hi
  rw [set_own (own:=own) (by omega)];exact h.hx i f hi hn
theorem set_some {i j:Nat} {f g:Frm} {o:Option Frm} (h:(fs.set i o)[j]? = some (some g)):(j=i/\o=some g)\/(j≠i/\fs[j]? = some (some g)):=by
 by_cases hj:j=i
 ·subst hj
  have hl:j<fs.length:=by
   have:=(List.getElem?_eq_some_iff.1 h).1
   rwa [List.length_set] at this
  rw [List.getElem?_set_self hl] at h
  exact .inl ⟨rfl,Option.some.inj h⟩
 ·rw [List.getElem?_set_ne (Ne.symm hj)] at h
  exact .inr ⟨hj,h⟩
theorem PM.setN (h:PM base σ p d ra ma own hand pins fs am pin) {i:Nat} (hi:pin≠some i):PM base (σ.set ra (some (.obj ((fs.set i none).map frV)))) p d ra ma own hand pins (fs.set i none) am pin:=by
 have o1:=h.o1;have o2:=h.o2;have o3:=h.o3
 have key:∀ (j:Nat) (g:Frm),(fs.set i none)[j]? = some (some g)->fs[j]? = some (some g):=fun j g hj=>by
  rcases set_some (f:=g) hj with ⟨_,h2⟩|⟨_,h2⟩
  ·cases h2
  ·exact h2
 refine ⟨?_,ASt.set_same _ _ _,?_,fun j f hj=>?_,fun j f hj hn=>?_,h.o1,h.o2,h.o3,fun j f hj=>h.o4 j f (key j f hj),h.z1,h.z2,h.z3,fun j f hj=>h.z4 j f (key j f hj),ext_set h.ext h.z2⟩
 ·rw [set_own (own:=own) (by omega),List.length_set];exact h.hp
 ·rw [set_own (own:=own) (by omega)];exact h.hm
 ·have:=h.o4 j f (key j f hj)
  rw [set_own (own:=own) (by omega)];exact h.hf j f (key j f hj)
 ·have:=h.o4 j f (key j f hj)
  rw [set_own (own:=own) (by omega)];exact h.hx j f (key j f hj) hn
theorem PM.setF (h:PM base σ p d ra ma own hand pins fs am pin) {i:Nat} {f:Frm} (hi:fs[i]? = some (some f)) (u y:Bool):PM base (σ.set f.fa (some (.obj ({ f with used:=u,dirty:=y }.cs p (pinV pin i))))) p d ra ma own hand pins (fs.set i (some { f with used:=u,dirty:=y })) am pin:=by
 have o1:=h.o1;have o2:=h.o2;have o3:=h.o3
 have oi:=h.o4 i f hi
 have hl:i<fs.length:=(List.getElem?_eq_some_iff.1 hi).1
 have hmap:(fs.set i (some { f with used:=u,dirty:=y })).map frV=fs.map frV:=by
  rw [List.map_set]
  have:frV (some { f with used:=u,dirty:=y })=frV (some f):=rfl
  rw [this]
  refine List.ext_getElem? fun j=>?_
  by_cases hj:j=i
  ·subst hj
   rw [List.getElem?_set_self (by rw [List.length_map];exact hl),List.getElem?_map,hi]
   rfl
  ·rw [List.getElem?_set_ne (Ne.symm hj)]
 refine ⟨?_,?_,?_,fun j g hj=>?_,fun j g hj hn=>?_,h.o1,h.o2,h.o3,fun j g hj=>?_,h.z1,h.z2,h.z3,fun j g hj=>?_,ext_set h.ext (h.z4 i f hi).1⟩
 ·rw [set_own (own:=own) (by omega),List.length_set];exact h.hp
 ·rw [set_own (own:=own) (by omega),hmap];exact h.hr
 ·rw [set_own (own:=own) (by omega)];exact h.hm
 ·rcases set_some (f:=g) hj with ⟨rfl,h2⟩|⟨h1,h2⟩
  ·injection h2 with h2;subst h2
   exact ASt.set_same _ _ _
  ·have:=h.o4 j g h2
   rw [set_own (own:=own) (by omega)];exact h.hf j g h2
 ·rcases set_some (f:=g) hj with ⟨rfl,h2⟩|⟨h1,h2⟩
  ·injection h2 with h2;subst h2
   show (σ.set f.fa _) f.xa=_
   rw [set_own (own:=own) (by omega)];exact h.hx j f hi hn
  ·have:=h.o4 j g h2
   rw [set_own (own:=own) (by omega)];exact h.hx j g h2 hn
 ·rcases set_some (f:=g) hj with ⟨rfl,h2⟩|⟨h1,h2⟩
  ·injection h2 with h2;subst h2;exact oi
  ·exact h.o4 j g h2
 ·rcases set_some (f:=g) hj with ⟨rfl,h2⟩|⟨h1,h2⟩
  ·injection h2 with h2;subst h2;exact h.z4 j f hi
  ·exact h.z4 j g h2
theorem PM.pinned (h:PM base σ p d ra ma own hand pins fs am none) {i:Nat} {f:Frm} (hi:fs[i]? = some (some f)) (u:Bool) :
  PM (base.set f.xa (some (.obj (bytesAV f.bs)))) ((σ.set f.fa (some (.obj ({ f with used:=u }.cs p 1))))) p d ra ma own hand pins (fs.set i (some { f with used:=u })) am (some i):=by
 have o1:=h.o1;have o2:=h.o2;have o3:=h.o3
 have oi:=h.o4 i f hi
 have hl:i<fs.length:=(List.getElem?_eq_some_iff.1 hi).1
 have hmap:(fs.set i (some { f with used:=u })).map frV=fs.map frV:=by
  rw [List.map_set]
  have:frV (some { f with used:=u })=frV (some f):=rfl
  rw [this]
  refine List.ext_getElem? fun j=>?_
  by_cases hj:j=i
  ·subst hj
   rw [List.getElem?_set_self (by rw [List.length_map];exact hl),List.getElem?_map,hi]
   rfl
  ·rw [List.getElem?_set_ne (Ne.symm hj)]
 refine ⟨?_,?_,?_,fun j g hj=>?_,fun j g hj hn=>?_,h.o1,h.o2,h.o3,fun j g hj=>?_,?_,?_,?_,fun j g hj=>?_,fun x r hx=>?_⟩
 ·rw [set_own (own:=own) (by omega),List.length_set];exact h.hp
 ·rw [set_own (own:=own) (by omega),hmap];exact h.hr
 ·rw [set_own (own:=own) (by omega)];exact h.hm
 ·rcases set_some (f:=g) hj with ⟨rfl,h2⟩|⟨h1,h2⟩
  ·injection h2 with h2;subst h2
   show (σ.set f.fa _) f.fa=some (.obj ({ f with used:=u }.cs p (pinV (some j) j)))
   have:pinV (some j) j=1:=if_pos rfl
   rw [this]
   exact ASt.set_same _ _ _
  ·have:=h.o4 j g h2
   have e:pinV (some i) j=pinV none j:=by
    unfold pinV
    rw [if_neg (by intro he;injection he with he;exact h1 he.symm),if_neg (by intro he;cases he)]
   rw [set_own (own:=own) (by omega),e];exact h.hf j g h2
 ·rcases set_some (f:=g) hj with ⟨rfl,h2⟩|⟨h1,h2⟩
  ·exact absurd rfl hn
  ·have:=h.o4 j g h2
   rw [set_own (own:=own) (by omega)];exact h.hx j g h2 (by simp)
 ·rcases set_some (f:=g) hj with ⟨rfl,h2⟩|⟨h1,h2⟩
  ·injection h2 with h2;subst h2;exact oi
  ·exact h.o4 j g h2
 ·rw [set_own (own:=own) (by omega)];exact h.z1
 ·rw [set_own (own:=own) (by omega)];exact h.z2
 ·rw [set_own (own:=own) (by omega)];exact h.z3
 ·rcases set_some (f:=g) hj with ⟨rfl,h2⟩|⟨h1,h2⟩
  ·injection h2 with h2;subst h2
   refine ⟨?_,fun hn=>absurd rfl hn⟩
   show (base.set f.xa _) f.fa=none
   rw [set_own (own:=own) (by omega)];exact (h.z4 j f hi).1
  ·have hj4:=h.o4 j g h2
   refine ⟨?_,fun _=>?_⟩
   ·rw [set_own (own:=own) (by omega)];exact (h.z4 j g h2).1
   ·rw [set_own (own:=own) (by omega)];exact (h.z4 j g h2).2 (by simp)
 ·have hfz:=(h.z4 i f hi).1
  by_cases hxx:x=f.xa
  ·subst hxx
   rw [ASt.set_same] at hx
   rw [set_own (own:=own) (by omega),h.hx i f hi (by simp),hx]
  ·rw [ASt.set_ne hxx] at hx
   exact ext_set h.ext hfz x r hx
theorem PM.unpin {i:Nat} (h:PM base σ p d ra ma own hand pins fs am (some i)) {f:Frm} (hi:fs[i]? = some (some f)) {bs:List UInt8} (hx:base f.xa=some (.obj (bytesAV bs))) :
  PM (base.set f.xa none) ((σ.set f.fa (some (.obj ({ f with bs:=bs }.cs p 0))))) p d ra ma own hand pins (fs.set i (some { f with bs:=bs })) am none:=by
 have o1:=h.o1;have o2:=h.o2;have o3:=h.o3
 have oi:=h.o4 i f hi
 have hl:i<fs.length:=(List.getElem?_eq_some_iff.1 hi).1
 have hmap:(fs.set i (some { f with bs:=bs })).map frV=fs.map frV:=by
  rw [List.map_set]
  have:frV (some { f with bs:=bs })=frV (some f):=rfl
  rw [this]
  refine List.ext_getElem? fun j=>?_
  by_cases hj:j=i
  ·subst hj
   rw [List.getElem?_set_self (by rw [List.length_map];exact hl),List.getElem?_map,hi]
   rfl
  ·rw [List.getElem?_set_ne (Ne.symm hj)]
 have hs:∀ j:Nat,j≠i->(some i:Option Nat)≠some j:=fun j hj he=>by injection he with he;exact hj he.symm
 refine ⟨?_,?_,?_,fun j g hj=>?_,fun j g hj hn=>?_,h.o1,h.o2,h.o3,fun j g hj=>?_,?_,?_,?_,fun j g hj=>?_,fun x r hx'=>?_⟩
 ·rw [set_own (own:=own) (by omega),List.length_set];exact h.hp
 ·rw [set_own (own:=own) (by omega),hmap];exact h.hr
 ·rw [set_own (own:=own) (by omega)];exact h.hm
 ·rcases set_some (f:=g) hj with ⟨rfl,h2⟩|⟨h1,h2⟩
  ·injection h2 with h2;subst h2
   exact ASt.set_same _ _ _
  ·have:=h.o4 j g h2
   have e:pinV none j=pinV (some i) j:=by
    unfold pinV
    rw [if_neg (hs j h1),if_neg (by intro he;cases he)]
   rw [set_own (own:=own) (by omega),e];exact h.hf j g h2
 ·rcases set_some (f:=g) hj with ⟨rfl,h2⟩|⟨h1,h2⟩
  ·injection h2 with h2;subst h2
   show (σ.set f.fa _) f.xa=some (.obj (bytesAV bs))
   rw [set_own (own:=own) (by omega)];exact h.ext _ _ hx
  ·have:=h.o4 j g h2
   rw [set_own (own:=own) (by omega)];exact h.hx j g h2 (hs j h1)
 ·rcases set_some (f:=g) hj with ⟨rfl,h2⟩|⟨h1,h2⟩
  ·injection h2 with h2;subst h2;exact oi
  ·exact h.o4 j g h2
 ·rw [set_own (own:=own) (by omega)];exact h.z1
 ·rw [set_own (own:=own) (by omega)];exact h.z2
 ·rw [set_own (own:=own) (by omega)];exact h.z3
 ·rcases set_some (f:=g) hj with ⟨rfl,h2⟩|⟨h1,h2⟩
  ·injection h2 with h2;subst h2
   refine ⟨?_,fun _=>ASt.set_same _ _ _⟩
   show (base.set f.xa _) f.fa=none
   rw [set_own (own:=own) (by omega)];exact (h.z4 j f hi).1
  ·have hj4:=h.o4 j g h2
   refine ⟨?_,fun _=>?_⟩
   ·rw [set_own (own:=own) (by omega)];exact (h.z4 j g h2).1
   ·rw [set_own (own:=own) (by omega)];exact (h.z4 j g h2).2 (hs j h1)
 ·have hfz:=(h.z4 i f hi).1
  by_cases hxx:x=f.xa
  ·subst hxx
   rw [ASt.set_same] at hx'
   cases hx'
  ·rw [ASt.set_ne hxx] at hx'
   exact ext_set h.ext hfz x r hx'
theorem PM.addF (h:PM base σ p d ra ma own hand pins fs am none) {i:Nat} (hi:fs[i]? = some none) {f:Frm} (h1:σ f.fa=none) (h2:σ f.xa=none) (h3:f.fa≠f.xa) :
  PM (base.set f.xa (some (.obj (bytesAV f.bs)))) (((σ.set f.xa (some (.obj (bytesAV f.bs)))).set f.fa (some (.obj (f.cs p 1)))).set ra (some (.obj ((fs.set i (some f)).map frV)))) p d ra ma
   (fun x=>if x=f.fa then 2*i+3 else if x=f.xa then 2*i+4 else own x) hand pins (fs.set i (some f)) am (some i):=by
 have hl:i<fs.length:=(List.getElem?_eq_some_iff.1 hi).1
 have ne:∀ {y:Nat} {r:Role},σ y=some r->y≠f.fa/\y≠f.xa:=fun {y r} hy=>⟨fun e=>(by rw [e,h1] at hy;cases hy),fun e=>(by rw [e,h2] at hy;cases hy)⟩
 have hb:∀ {x:Nat},σ x=none->base x=none:=fun {x} hx=>by
  cases hc:base x with
  | none=>rfl
  | some r=>rw [h.ext x r hc] at hx;cases hx
 have kp:=ne h.hp
 have kr:=ne h.hr
 have km:=ne h.hm
 have o1:=h.o1;have o2:=h.o2;have o3:=h.o3
 have hpr:p≠ra:=fun e=>by rw [e] at o1;omega
 have hmr:ma≠ra:=fun e=>by rw [e] at o3;omega
 have tag:∀ {y:Nat},y≠f.fa/\y≠f.xa->(if y=f.fa then 2*i+3 else if y=f.xa then 2*i+4 else own y)=own y:=fun {y} hy=>by rw [if_neg hy.1,if_neg hy.2]
 have put:∀ {y:Nat},y≠f.fa/\y≠f.xa->y≠ra->(((σ.set f.xa (some (.obj (bytesAV f.bs)))).set f.fa (some (.obj (f.cs p 1)))).set ra (some (.obj ((fs.set i (some f)).map frV)))) y=σ y:=fun {y} hy hr=>by
  rw [ASt.set_ne hr,ASt.set_ne hy.1,ASt.set_ne hy.2]
 have bput:∀ {y:Nat},y≠f.xa->(base.set f.xa (some (.obj (bytesAV f.bs)))) y=base y:=fun {y} hy=>ASt.set_ne hy
 have old:∀ (j:Nat) (g:Frm),fs[j]? = some (some g)->(g.fa≠f.fa/\g.fa≠f.xa)/\(g.xa≠f.fa/\g.xa≠f.xa)/\g.fa≠ra/\g.xa≠ra:=fun j g hg=>by
  have:=h.o4 j g hg
  refine ⟨ne (h.hf j g hg),ne (h.hx j g hg (by simp)),fun e=>?_,fun e=>?_⟩
  ·rw [e] at this;omega
  ·rw [e] at this;omega
 have hfr:f.fa≠ra:=Ne.symm kr.1
 have hxr:f.xa≠ra:=Ne.symm kr.2
 refine ⟨?_,ASt.set_same _ _ _,?_,fun j g hj=>?_,fun j g hj hn=>?_,(tag kp).trans o1,(tag kr).trans o2,(tag km).trans o3,fun j g hj=>?_,?_,?_,?_,fun j g hj=>?_,fun x r hx=>?_⟩
 ·rw [put kp hpr,List.length_set];exact h.hp
 ·rw [put km hmr];exact h.hm
 ·rcases set_some (f:=g) hj with ⟨rfl,h4⟩|⟨h4,h5⟩
  ·injection h4 with h4;subst h4
   rw [ASt.set_ne hfr]
   have:pinV (some j) j=1:=if_pos rfl
   rw [this]
   exact ASt.set_same _ _ _
  ·obtain ⟨q1,q2,q3,q4⟩:=old j g h5
   have e:pinV (some i) j=pinV none j:=by
    unfold pinV
    rw [if_neg (by intro he;injection he with he;exact h4 he.symm),if_neg (by intro he;cases he)]
   rw [put q1 q3,e];exact h.hf j g h5
 ·rcases set_some (f:=g) hj with ⟨rfl,h4⟩|⟨h4,h5⟩
  ·exact absurd rfl hn
  ·obtain ⟨q1,q2,q3,q4⟩:=old j g h5
   rw [put q2 q4];exact h.hx j g h5 (by simp)
 ·rcases set_some (f:=g) hj with ⟨rfl,h4⟩|⟨h4,h5⟩
  ·injection h4 with h4;subst h4
   rw [if_pos rfl,if_neg (Ne.symm h3),if_pos rfl]
   exact ⟨rfl,rfl⟩
  ·obtain ⟨q1,q2,q3,q4⟩:=old j g h5
   exact ⟨(tag q1).trans (h.o4 j g h5).1,(tag q2).trans (h.o4 j g h5).2⟩
 ·rw [bput kp.2];exact h.z1
 ·rw [bput kr.2];exact h.z2
 ·rw [bput km.2];exact h.z3
 ·rcases set_some (f:=g) hj with ⟨rfl,h4⟩|⟨h4,h5⟩
  ·injection h4 with h4;subst h4
   exact ⟨by rw [bput h3];exact hb h1,fun hn=>absurd rfl hn⟩
  ·obtain ⟨q1,q2,q3,q4⟩:=old j g h5
   exact ⟨by rw [bput q1.2];exact (h.z4 j g h5).1,fun _=>by rw [bput q2.2];exact (h.z4 j g h5).2 (by simp)⟩
 ·by_cases hxx:x=f.xa
  ·subst hxx
   rw [ASt.set_same] at hx
   rw [ASt.set_ne hxr,ASt.set_ne (Ne.symm h3),ASt.set_same,hx]
  ·rw [ASt.set_ne hxx] at hx
   have hσ:=h.ext x r hx
   have hra:x≠ra:=fun e=>by rw [e,h.z2] at hx;cases hx
   rw [put (ne hσ) hra];exact hσ
end
end Go.A
namespace Go.A
open Go.Proofs
abbrev Pgs:=Nat->Option (List UInt8)
structure PW (fs:List (Option Frm)) (am:List (Int×Int)) (g pg:Pgs):Prop where
 len:∀ (i:Nat) (f:Frm),fs[i]? = some (some f)->f.bs.length=504/\504<=f.c
 has:∀ (i:Nat) (f:Frm),fs[i]? = some (some f)->∃ s,g f.page=some s/\(f.dirty=false->s=f.bs)
 am1:∀ (i:Nat) (f:Frm),fs[i]? = some (some f)->findM am (f.page:Int)=some (i:Int)
 am2:∀ (q:Nat) (v:Int),findM am (q:Int)=some v->∃ (i:Nat) (f:Frm),v=i/\fs[i]? = some (some f)/\f.page=q
 nd:(am.map Prod.fst).Nodup
 pg1:∀ (i:Nat) (f:Frm),fs[i]? = some (some f)->pg f.page=some f.bs
 pg2:∀ (q:Nat),(∀ (i:Nat) (f:Frm),fs[i]? = some (some f)->f.page≠q)->pg q=g q
section
variable {fs:List (Option Frm)} {am:List (Int×Int)} {g pg:Pgs} {i:Nat} {f:Frm}
theorem PW.uniq (h:PW fs am g pg) {j:Nat} {f':Frm} (hi:fs[i]? = some (some f)) (hj:fs[j]? = some (some f')) (hp:f.page=f'.page):i=j:=by
 have h1:=h.am1 i f hi
 have h2:=h.am1 j f' hj
 rw [hp,h2] at h1
 have:=Option.some.inj h1
 omega
theorem PW.flag (h:PW fs am g pg) (hi:fs[i]? = some (some f)) (u y:Bool) (hy:y=true\/y=f.dirty\/g f.page=some f.bs):PW (fs.set i (some { f with used:=u,dirty:=y })) am g pg:=by
 have hl:i<fs.length:=(List.getElem?_eq_some_iff.1 hi).1
 refine ⟨fun j k hj=>?_,fun j k hj=>?_,fun j k hj=>?_,fun q v hq=>?_,h.nd,fun j k hj=>?_,fun q hq=>?_⟩
 ·rcases set_some (f:=f) hj with ⟨rfl,h2⟩|⟨_,h2⟩
  ·injection h2 with h2;subst h2;exact h.len j f hi
  ·exact h.len j k h2
 ·rcases set_some (f:=f) hj with ⟨rfl,h2⟩|⟨_,h2⟩
  ·injection h2 with h2;subst h2
   obtain ⟨s,h3,h4⟩:=h.has j f hi
   refine ⟨s,h3,fun hd=>?_⟩
   have hd:y=false:=hd
   rcases hy with hy|hy|hy
   ·rw [hy] at hd;cases hd
   ·exact h4 (hy▸hd)
   ·rw [h3] at hy;exact Option.some.inj hy
  ·exact h.has j k h2
 ·rcases set_some (f:=f) hj with ⟨rfl,h2⟩|⟨_,h2⟩
  ·injection h2 with h2;subst h2;exact h.am1 j f hi
  ·exact h.am1 j k h2
 ·obtain ⟨j,k,h1,h2,h3⟩:=h.am2 q v hq
  by_cases hj:j=i
  ·subst hj
   rw [hi] at h2
   injection h2 with h2;injection h2 with h2;subst h2
   exact ⟨j,_,h1,List.getElem?_set_self hl,h3⟩
  ·exact ⟨j,k,h1,by rw [List.getElem?_set_ne (Ne.symm hj)];exact h2,h3⟩
 ·rcases set_some (f:=f) hj with ⟨rfl,h2⟩|⟨_,h2⟩
  ·injection h2 with h2;subst h2;exact h.pg1 j f hi
  ·exact h.pg1 j k h2
 ·refine h.pg2 q fun j k hj=>?_
  by_cases hji:j=i
  ·subst hji
   rw [hi] at hj
   injection hj with hj;injection hj with hj;subst hj
   exact hq j { f with used:=u,dirty:=y } (List.getElem?_set_self hl)
  ·exact hq j k (by rw [List.getElem?_set_ne (Ne.symm hji)];exact hj)
theorem PW.disk (h:PW fs am g pg) (hi:fs[i]? = some (some f)):PW fs am (pset g f.page (some f.bs)) pg:=by
 refine ⟨h.len,fun j k hj=>?_,h.am1,h.am2,h.nd,h.pg1,fun q hq=>?_⟩
 ·by_cases hp:k.page=f.page
  ·obtain rfl:=h.uniq hj hi hp
   rw [hi] at hj
   injection hj with hj;injection hj with hj;subst hj
   exact ⟨f.bs,pset_same _ _ _,fun _=>rfl⟩
  ·rw [pset_ne hp];exact h.has j k hj
 ·rw [pset_ne (Ne.symm (hq i f hi))]
  exact h.pg2 q hq
theorem PW.gone (h:PW fs am g pg) (hi:fs[i]? = some (some f)) (hd:g f.page=some f.bs):PW (fs.set i none) (delM am (f.page:Int)) g pg:=by
 have key:∀ (j:Nat) (k:Frm),(fs.set i none)[j]? = some (some k)->j≠i/\fs[j]? = some (some k):=fun j k hj=>by
  rcases set_some (f:=f) hj with ⟨_,h2⟩|⟨h1,h2⟩
  ·cases h2
  ·exact ⟨h1,h2⟩
 refine ⟨fun j k hj=>h.len j k (key j k hj).2,fun j k hj=>h.has j k (key j k hj).2,fun j k hj=>?_,fun q v hq=>?_,delM_nodup h.nd _,fun j k hj=>h.pg1 j k (key j k hj).2,fun q hq=>?_⟩
 ·obtain ⟨h1,h2⟩:=key j k hj
  rw [findM_del h.nd,if_neg]
  ·exact h.am1 j k h2
  ·intro he
   exact h1 (h.uniq h2 hi (by omega))
 ·rw [findM_del h.nd] at hq
  split at hq
  ·cases hq
  ·rename_i hne
   obtain ⟨j,k,h1,h2,h3⟩:=h.am2 q v hq
   refine ⟨j,k,h1,?_,h3⟩
   have:j≠i:=fun he=>by
    subst he
    rw [hi] at h2
    injection h2 with h2;injection h2 with h2;subst h2
    exact hne (by rw [h3])
   rw [List.getElem?_set_ne (Ne.symm this)];exact h2
 ·by_cases hp:q=f.page
  ·subst hp
   rw [h.pg1 i f hi,hd]
  ·refine h.pg2 q fun j k hj=>?_
   by_cases hji:j=i
   ·subst hji
    rw [hi] at hj
    injection hj with hj;injection hj with hj;subst hj
    exact Ne.symm hp
   ·exact hq j k (by rw [List.getElem?_set_ne (Ne.symm hji)];exact hj)
theorem PW.lay (h:PW fs am g pg) (hi:fs[i]? = some none) (hp:pg f.page=some f.bs) (hg:g f.page=some f.bs) (hn:∀ (j:Nat) (k:Frm),fs[j]? = some (some k)->k.page≠f.page) (hl:f.bs.length=504/\504<=f.c) :
  PW (fs.set i (some f)) (putM am (f.page:Int) (i:Int)) g pg:=by
 have hil:i<fs.length:=(List.getElem?_eq_some_iff.1 hi).1
 refine ⟨fun j k hj=>?_,fun j k hj=>?_,fun j k hj=>?_,fun q v hq=>?_,putM_nodup h.nd _ _,fun j k hj=>?_,fun q hq=>?_⟩
 ·rcases set_some (f:=f) hj with ⟨_,h2⟩|⟨_,h2⟩
  ·injection h2 with h2;subst h2;exact hl
  ·exact h.len j k h2
 ·rcases set_some (f:=f) hj with ⟨_,h2⟩|⟨_,h2⟩
  ·injection h2 with h2;subst h2;exact ⟨f.bs,hg,fun _=>rfl⟩
  ·exact h.has j k h2
 ·rw [findM_put]
  rcases set_some (f:=f) hj with ⟨rfl,h2⟩|⟨_,h2⟩
  ·injection h2 with h2;subst h2;exact if_pos rfl
  ·rw [if_neg (fun he=>hn j k h2 (by omega))]
   exact h.am1 j k h2
 ·rw [findM_put] at hq
  split at hq
  ·rename_i he
   exact ⟨i,f,(Option.some.inj hq).symm,List.getElem?_set_self hil,by omega⟩
  ·obtain ⟨j,k,h1,h2,h3⟩:=h.am2 q v hq
   refine ⟨j,k,h1,?_,h3⟩
   have:j≠i:=fun he=>by subst he;rw [hi] at h2;cases h2
   rw [List.getElem?_set_ne (Ne.symm this)];exact h2
 ·rcases set_some (f:=f) hj with ⟨_,h2⟩|⟨_,h2⟩
  ·injection h2 with h2;subst h2;exact hp
  ·exact h.pg1 j k h2
 ·refine h.pg2 q fun j k hj=>?_
  have:j≠i:=fun he=>by subst he;rw [hi] at hj;cases hj
  exact hq j k (by rw [List.getElem?_set_ne (Ne.symm this)];exact hj)
theorem PW.took (h:PW fs am g pg) {q:Nat} (hq:g q=none) (v:Option (List UInt8)):PW fs am (pset g q v) (pset pg q v):=by
 have hne:∀ (j:Nat) (k:Frm),fs[j]? = some (some k)->k.page≠q:=fun j k hj he=>by
  obtain ⟨s,h1,_⟩:=h.has j k hj
  rw [he,hq] at h1;cases h1
 refine ⟨h.len,fun j k hj=>by rw [pset_ne (hne j k hj)];exact h.has j k hj,h.am1,h.am2,h.nd,fun j k hj=>by rw [pset_ne (hne j k hj)];exact h.pg1 j k hj,fun r hr=>?_⟩
 unfold pset
 split
 ·rfl
 ·exact h.pg2 r hr
theorem PW.gave (h:PW fs am g pg) {q:Nat} (hne:∀ (j:Nat) (k:Frm),fs[j]? = some (some k)->k.page≠q) (v:Option (List UInt8)):PW fs am (pset g q v) (pset pg q v):=by
 refine ⟨h.len,fun j k hj=>by rw [pset_ne (hne j k hj)];exact h.has j k hj,h.am1,h.am2,h.nd,fun j k hj=>by rw [pset_ne (hne j k hj)];exact h.pg1 j k hj,fun r hr=>?_⟩
 unfold pset
 split
 ·rfl
 ·exact h.pg2 r hr
theorem PW.gaveF (h:PW fs am g pg) (hi:fs[i]? = some (some f)):PW (fs.set i none) (delM am (f.page:Int)) (pset g f.page none) (pset pg f.page none):=by
 have h1:=(h.disk hi).gone hi (pset_same _ _ _)
 have h2:=h1.gave (q:=f.page) (fun j k hj he=>by
  rcases set_some (f:=f) hj with ⟨_,h2⟩|⟨h2,h3⟩
  ·cases h2
  ·exact h2 (h.uniq h3 hi he)) none
 have e:pset (pset g f.page (some f.bs)) f.page none=pset g f.page none:=by
  funext r
  unfold pset
  split<;>rfl
 rw [e] at h2
 exact h2
theorem PW.bytes (h:PW fs am g pg) (hi:fs[i]? = some (some f)) {bs:List UInt8} (hb:bs.length=504) (hd:f.dirty=true\/bs=f.bs) :
  PW (fs.set i (some { f with bs:=bs })) am g (pset pg f.page (some bs)):=by
 have hl:i<fs.length:=(List.getElem?_eq_some_iff.1 hi).1
 have hli:=h.len i f hi
 refine ⟨fun j k hj=>?_,fun j k hj=>?_,fun j k hj=>?_,fun q v hq=>?_,h.nd,fun j k hj=>?_,fun q hq=>?_⟩
 ·rcases set_some (f:=f) hj with ⟨_,h2⟩|⟨_,h2⟩
  ·injection h2 with h2;subst h2;exact ⟨hb,hli.2⟩
  ·exact h.len j k h2
 ·rcases set_some (f:=f) hj with ⟨_,h2⟩|⟨_,h2⟩
  ·injection h2 with h2;subst h2
   obtain ⟨s,h3,h4⟩:=h.has i f hi
   refine ⟨s,h3,fun hdd=>?_⟩
   have hdd:f.dirty=false:=hdd
   rcases hd with hd|hd
   ·rw [hd] at hdd;cases hdd
   ·show s=bs
    rw [hd];exact h4 hdd
  ·exact h.has j k h2
 ·rcases set_some (f:=f) hj with ⟨rfl,h2⟩|⟨_,h2⟩
  ·injection h2 with h2;subst h2;exact h.am1 j f hi
  ·exact h.am1 j k h2
 ·obtain ⟨j,k,h1,h2,h3⟩:=h.am2 q v hq
  by_cases hj:j=i
  ·subst hj
   rw [hi] at h2
   injection h2 with h2;injection h2 with h2;subst h2
   exact ⟨j,_,h1,List.getElem?_set_self hl,h3⟩
  ·exact ⟨j,k,h1,by rw [List.getElem?_set_ne (Ne.symm hj)];exact h2,h3⟩
 ·rcases set_some (f:=f) hj with ⟨_,h2⟩|⟨h1,h2⟩
  ·injection h2 with h2;subst h2;exact pset_same _ _ _
  ·rw [pset_ne (fun he=>h1 (h.uniq h2 hi he))]
   exact h.pg1 j k h2
 ·have hne:q≠f.page:=fun he=>hq i { f with bs:=bs } (List.getElem?_set_self hl) he.symm
  rw [pset_ne hne]
  refine h.pg2 q fun j k hj=>?_
  by_cases hji:j=i
  ·subst hji
   rw [hi] at hj
   injection hj with hj;injection hj with hj;subst hj
   exact Ne.symm hne
  ·exact hq j k (by rw [List.getElem?_set_ne (Ne.symm hji)];exact hj)
theorem PW.res (h:PW fs am g pg) {q:Nat} {s:List UInt8} (hq:pg q=some s):∃ t,g q=some t:=by
 by_cases hc:∃ (i:Nat) (f:Frm),fs[i]? = some (some f)/\f.page=q
 ·obtain ⟨i,f,h1,rfl⟩:=hc
  obtain ⟨t,h2,_⟩:=h.has i f h1
  exact ⟨t,h2⟩
 ·refine ⟨s,?_⟩
  rw [<-h.pg2 q fun i f hi he=>hc ⟨i,f,hi,he⟩]
  exact hq
end
/-! The frame rule. -/
structure Beside (base σ base' σ':ASt):Prop where
 keep:∀ x r,base x=none->σ x=some r->σ' x=some r
 sub:∀ x r,base' x=some r->σ' x=some r
 own:∀ x r,base x=none->σ x=some r->base' x=none
theorem Beside.set {base σ:ASt} {x:Nat} (r:Option Role) (he:∀ x r,base x=some r->σ x=some r) (hx:base x≠none\/σ x=none):Beside base σ (base.set x r) (σ.set x r):=by
 have hne:∀ y q,base y=none->σ y=some q->y≠x:=fun y q h1 h2 e=>by
  subst e
  rcases hx with hx|hx
  ·exact hx h1
  ·rw [hx] at h2;cases h2
 refine ⟨fun y q h1 h2=>by rw [ASt.set_ne (hne y q h1 h2)];exact h2,fun y q hy=>?_,fun y q h1 h2=>by rw [ASt.set_ne (hne y q h1 h2)];exact h1⟩
 by_cases hyx:y=x
 ·rw [hyx,ASt.set_same] at hy ⊢;exact hy
 ·rw [ASt.set_ne hyx] at hy ⊢;exact he y q hy
theorem DM.frame {σ0 σ σ0' σ':ASt} {d B cB F I cI:Nat} {D:Dsk} {rB rI:List AV} {fv:AV} (h:DM σ0 d D σ B cB rB fv F I cI rI) (hb:Beside σ0 σ σ0' σ'):DM σ0' d D σ' B cB rB fv F I cI rI:=by
 refine ⟨hb.keep _ _ h.z1 h.hd,hb.keep _ _ h.z2 h.hB,hb.keep _ _ h.z3 h.hI,h.cB,h.cI,?_,h.n1,h.n2,h.n3,hb.own _ _ h.z1 h.hd,hb.own _ _ h.z2 h.hB,hb.own _ _ h.z3 h.hI,fun x _ _ _ _=>?_⟩
 ·rcases h.hF with ⟨x1,x2,x3⟩|⟨cF,rF,x1,x2,x3,x4,x5,x6,x7,x8⟩
  ·exact .inl ⟨x1,x2,x3⟩
  ·exact .inr ⟨cF,rF,x1,hb.keep _ _ x8 x2,x3,x4,x5,x6,x7,hb.own _ _ x8 x2⟩
 ·cases hx:σ0' x with
  | none=>exact .inr rfl
  | some r=>exact .inl (hb.sub x r hx).symm
theorem DkAt.frame {σ0 σ σ0' σ':ASt} {d n:Nat} {m:Int} {g:Pgs} (h:DkAt σ0 d m n g σ) (hb:Beside σ0 σ σ0' σ'):DkAt σ0' d m n g σ':=by
 obtain ⟨D,L,⟨B,cB,rB,fv,F,I,cI,rI,h1⟩,h2⟩:=h
 exact ⟨D,L,⟨B,cB,rB,fv,F,I,cI,rI,h1.frame hb⟩,h2⟩
section
variable {base σ base' σ':ASt} {p d ra ma:Nat} {own:Nat->Nat} {hand pins:Int} {fs:List (Option Frm)} {am:List (Int×Int)} {pin:Option Nat}
theorem PM.frame (h:PM base σ p d ra ma own hand pins fs am pin) (hb:Beside base σ base' σ'):PM base' σ' p d ra ma own hand pins fs am pin:=
 ⟨hb.keep _ _ h.z1 h.hp,hb.keep _ _ h.z2 h.hr,hb.keep _ _ h.z3 h.hm,fun i f hi=>hb.keep _ _ (h.z4 i f hi).1 (h.hf i f hi),fun i f hi hn=>hb.keep _ _ ((h.z4 i f hi).2 hn) (h.hx i f hi hn),h.o1,h.o2,h.o3,h.o4,
  hb.own _ _ h.z1 h.hp,hb.own _ _ h.z2 h.hr,hb.own _ _ h.z3 h.hm,fun i f hi=>⟨hb.own _ _ (h.z4 i f hi).1 (h.hf i f hi),fun hn=>hb.own _ _ ((h.z4 i f hi).2 hn) (h.hx i f hi hn)⟩,hb.sub⟩
end
noncomputable def between (base σ1 base':ASt):ASt:=open Classical in fun x=>match base' x with
 | some r=>some r
 | none=>if base x=none then σ1 x else none
theorem Beside.two {base σ1 σ base' σ':ASt} (h1:∀ x r,base x=some r->σ1 x=some r) (h2:∀ x r,σ1 x=some r->σ x=some r) (h:Beside base σ base' σ'):Beside base σ1 base' (between base σ1 base')/\Beside σ1 σ (between base σ1 base') σ':=by
 have e1:∀ x r,base' x=some r->between base σ1 base' x=some r:=fun x r hx=>by unfold between;rw [hx]
 have e2:∀ x,base' x=none->base x=none->between base σ1 base' x=σ1 x:=fun x hx hy=>by unfold between;rw [hx];simp [hy]
 refine ⟨⟨fun x r hx hy=>?_,e1,fun x r hx hy=>h.own x r hx (h2 x r hy)⟩,⟨fun x r hx hy=>?_,fun x r hx=>?_,fun x r hx hy=>?_⟩⟩
 ·rw [e2 x (h.own x r hx (h2 x r hy)) hx];exact hy
 ·refine h.keep x r ?_ hy
  cases hc:base x with
  | none=>rfl
  | some q=>rw [h1 x q hc] at hx;cases hx
 ·cases hc:base' x with
  | some q=>rw [e1 x q hc] at hx;rw [<-hx];exact h.sub x q hc
  | none=>
    by_cases hb:base x=none
    ·rw [e2 x hc hb] at hx
     exact h.keep x r hb (h2 x r hx)
    ·unfold between at hx
     rw [hc] at hx
     simp [hb] at hx
 ·have hb:base x=none:=by
   cases hc:base x with
   | none=>rfl
   | some q=>rw [h1 x q hc] at hx;cases hx
  rw [e2 x (h.own x r hb hy) hb];exact hx
def PoolAt (base σ:ASt) (p:Nat) (m:Int) (n:Nat) (pg:Pgs):Prop:=∃ σ1 d ra ma own hand fs am g,DkAt σ1 d m n g σ/\PM base σ1 p d ra ma own ((hand:Nat):Int) 0 fs am none/\PW fs am g pg/\hand<fs.length/\fs.length<=1000/\CkT base
def PinAt (base σ:ASt) (p:Nat) (m:Int) (n:Nat) (pg:Pgs) (page fa xa c:Nat) (dirty:Bool):Prop:=∃ σ1 d ra ma own hand fs am g i f,DkAt σ1 d m n g σ/\PM base σ1 p d ra ma own ((hand:Nat):Int) 1 fs am (some i)/\PW fs am g pg/\hand<fs.length/\fs.length<=1000/\CkT base ∧
 fs[i]? = some (some f)/\f.page=page/\f.fa=fa/\f.xa=xa/\f.c=c/\f.dirty=dirty
section
variable {base σ base' σ':ASt} {p n page fa xa c:Nat} {m:Int} {pg:Pgs} {dirty:Bool}
theorem PoolAt.at (h:PoolAt base σ p m n pg) {x:Nat} {r:Role} (hx:base x=some r):σ x=some r:=by
 obtain ⟨σ1,d,ra,ma,own,hand,fs,am,g,h1,h2,_⟩:=h
 exact h1.at (h2.ext x r hx)
theorem PinAt.at (h:PinAt base σ p m n pg page fa xa c dirty) {x:Nat} {r:Role} (hx:base x=some r):σ x=some r:=by
 obtain ⟨σ1,d,ra,ma,own,hand,fs,am,g,i,f,h1,h2,_⟩:=h
 exact h1.at (h2.ext x r hx)
theorem PoolAt.frame (h:PoolAt base σ p m n pg) (hb:Beside base σ base' σ') (hc:CkT base'):PoolAt base' σ' p m n pg:=by
 obtain ⟨σ1,d,ra,ma,own,hand,fs,am,g,h1,h2,h3,h4,h5,_⟩:=h
 obtain ⟨b1,b2⟩:=hb.two h2.ext fun x r=>h1.at
 exact ⟨_,d,ra,ma,own,hand,fs,am,g,h1.frame b2,h2.frame b1,h3,h4,h5,hc⟩
theorem PinAt.frame (h:PinAt base σ p m n pg page fa xa c dirty) (hb:Beside base σ base' σ') (hc:CkT base'):PinAt base' σ' p m n pg page fa xa c dirty:=by
 obtain ⟨σ1,d,ra,ma,own,hand,fs,am,g,i,f,h1,h2,h3,h4,h5,_,h6⟩:=h
 obtain ⟨b1,b2⟩:=hb.two h2.ext fun x r=>h1.at
 exact ⟨_,d,ra,ma,own,hand,fs,am,g,i,f,h1.frame b2,h2.frame b1,h3,h4,h5,hc,h6⟩
theorem CkT.away {x:Nat} {r:Option Role} (h:CkT base) (hx:x≠0):CkT (base.set x r):=by
 unfold CkT at *
 rw [ASt.set_ne (Ne.symm hx)];exact h
theorem PoolAt.ck (h:PoolAt base σ p m n pg):CkT base:=by
 obtain ⟨σ1,d,ra,ma,own,hand,fs,am,g,_,_,_,_,_,h6⟩:=h
 exact h6
theorem PinAt.ck (h:PinAt base σ p m n pg page fa xa c dirty):CkT base:=by
 obtain ⟨σ1,d,ra,ma,own,hand,fs,am,g,i,f,_,_,_,_,_,h6,_⟩:=h
 exact h6
theorem PoolAt.set (h:PoolAt base σ p m n pg) {x:Nat} (r:Option Role) (hx:base x≠none\/σ x=none) (hk:x≠0):PoolAt (base.set x r) (σ.set x r) p m n pg:=
 h.frame (Beside.set r (fun x r=>h.at) hx) (h.ck.away hk)
theorem PinAt.set (h:PinAt base σ p m n pg page fa xa c dirty) {x:Nat} (r:Option Role) (hx:base x≠none\/σ x=none) (hk:x≠0):PinAt (base.set x r) (σ.set x r) p m n pg page fa xa c dirty:=
 h.frame (Beside.set r (fun x r=>h.at) hx) (h.ck.away hk)
theorem PoolAt.less (h:PoolAt base σ p m n pg) (hb:∀ x r,base' x=some r->base x=some r) (hc:CkT base'):PoolAt base' σ p m n pg:=
 h.frame ⟨fun x r _ hx=>hx,fun x r hx=>h.at (hb x r hx),fun x r hx _=>by
  cases hcx:base' x with
  | none=>rfl
  | some q=>rw [hb x q hcx] at hx;cases hx⟩ hc
theorem PoolAt.rng (h:PoolAt base σ p m n pg) {q:Nat} {s:List UInt8} (hq:pg q=some s):1<=q/\q<60000:=by
 obtain ⟨σ1,d,ra,ma,own,hand,fs,am,g,h1,h2,h3,_⟩:=h
 obtain ⟨t,ht⟩:=h3.res hq
 exact h1.rng ht
theorem PoolAt.slen (h:PoolAt base σ p m n pg) {q:Nat} {s:List UInt8} (hq:pg q=some s):s.length=504:=by
 obtain ⟨σ1,d,ra,ma,own,hand,fs,am,g,h1,h2,h3,_⟩:=h
 by_cases hc:∃ (i:Nat) (f:Frm),fs[i]? = some (some f)/\f.page=q
 ·obtain ⟨i,f,h4,rfl⟩:=hc
  have h5:=h3.pg1 i f h4
  rw [hq] at h5
  rw [Option.some.inj h5]
  exact (h3.len i f h4).1
 ·rw [h3.pg2 q fun i f hi he=>hc ⟨i,f,hi,he⟩] at hq
  exact h1.slen hq
end
end Go.A
namespace Go.A
open Go.Proofs
/-! 82: (*tabular/pool.Pool).victim -/
def c82_29:ACode := .seq (.ops [ oq 12 (.bin .lss (.t 11) (.t 10))]) (.seq (.cond (.t 12) .skip (.exit 0)) (.seq (.block 1 (.seq (.ops [ oq 13 (.mv (.t 0)),oq 14 (.nc (.t 13)),oq 15 (.fa 3 (.t 14)),oq 16 (.ld none (.t 15)),oq 3 (.mv (.t 16))]) (.seq (.ops [ oq 17 (.mv (.t 0)),oq 18 (.mv (.t 0)),oq 19 (.nc (.t 18)),oq 20 (.fa 3 (.t 19)),oq 21 (.ld none (.t 20)),oq 22 (.bin .add (.t 21) (.v (.int .i64 1))),oq 23 (.mv (.t 0)),oq 24 (.nc (.t 23)),oq 25 (.fa 1 (.t 24)),oq 26 (.ld none (.t 25)),oq 27 (.len (.t 26)),oq 28 (.bin .rem (.t 22) (.t 27)),oq 29 (.nc (.t 17)),oq 30 (.fa 3 (.t 29)),oz (.store 1 (.t 30) (.t 28))]) (.seq (.ops [ oq 31 (.mv (.t 0)),oq 32 (.nc (.t 31)),oq 33 (.fa 1 (.t 32)),oq 34 (.ld none (.t 33)),oq 35 (.mv (.t 3)),oq 36 (.ia 1 (.t 34) (.t 35)),oq 37 (.ld none (.t 36)),oq 4 (.mv (.t 37))]) (.block 2 (.seq (.ops [ oq 40 (.mv (.t 4)),oq 41 (.eq .p false (.t 40) (.v .nilp)),oq 39 (.mv (.t 41))]) (.cond (.t 39) (.seq (.ops [ oq 42 (.mv (.t 3)),oq 2 (.mv (.t 42))]) .ret) (.seq (.ops [ oq 44 (.mv (.t 4)),oq 45 (.nc (.t 44)),oq 46 (.fa 3 (.t 45)),oq 47 (.ld none (.t 46)),oq 48 (.bin .gtr (.t 47) (.v (.int .i64 0))),oq 43 (.mv (.t 48))]) (.cond (.t 43) .skip (.seq (.ops [ oq 50 (.mv (.t 4)),oq 51 (.nc (.t 50)),oq 52 (.fa 4 (.t 51)),oq 53 (.ld none (.t 52)),oq 49 (.mv (.t 53))]) (.cond (.t 49) (.ops [ oq 54 (.mv (.t 4)),oq 55 (.nc (.t 54)),oq 56 (.fa 4 (.t 55)),oz (.store 1 (.t 56) (.v (.bool false)))]) (.seq (.ops [ oq 38 (.mv (.t 3)),oq 2 (.mv (.t 38))]) .ret)))))))))))) (.ops [ oq 57 (.bin .add (.t 11) (.v (.int .i64 1))),oq 11 (.mv (.t 57))])))
def c82_36:ACode := .seq (.ops [ oq 2 (.mv (.v (.int .i64 0)))]) (.seq (.seq (.ops [ oq 5 (.mv (.t 0)),oq 6 (.nc (.t 5)),oq 7 (.fa 1 (.t 6)),oq 8 (.ld none (.t 7)),oq 9 (.len (.t 8)),oq 10 (.bin .mul (.v (.int .i64 2)) (.t 9)),oq 11 (.mv (.v (.int .i64 0)))]) (.block 0 (.loop c82_29))) (.seq (.ops [ oq 2 (.mv (.v (.int .i64 (-1))))]) .ret))
@[go_sem] def c82_29_wp:=wp_of c82_29.eq_1
@[go_sem] def c82_36_wp:=wp_of c82_36.eq_1
def c82:AFn:=⟨58,[.t 2],c82_36⟩
theorem c82_ok:compF Tryz.prog Tryz.f82=some c82:=by kernel_rfl
theorem a82 {args:List AV} {σ:ASt} {R:AV->ASt->Prop} (hl:args.length<=58) (h:c82_36.wp Tryz.prog (RetQ [.t 2] R) (init args) σ):ACalls Tryz.prog 82 args σ R:=acalls_of Tryz.func82 c82_ok hl h
end Go.A
namespace Go.A
open Go.Proofs
def PS (base σ:ASt) (p d ra ma:Nat) (own:Nat->Nat) (hand pins:Int) (fs:List (Option Frm)) (am:List (Int×Int)) (pin:Option Nat) (m:Int) (n:Nat) (g:Pgs):Prop:=
 ∃ σ1,DkAt σ1 d m n g σ/\PM base σ1 p d ra ma own hand pins fs am pin/\CkT base
section
variable {base σ:ASt} {p d ra ma n hand:Nat} {own:Nat->Nat} {pins hnd:Int} {fs:List (Option Frm)} {am:List (Int×Int)} {pin:Option Nat} {m:Int} {g pg:Pgs} {i:Nat} {f:Frm}
theorem PS.hp (h:PS base σ p d ra ma own hnd pins fs am pin m n g):σ p=some (.obj [.ptr d 0,.msl ra 0 fs.length fs.length,.map (some ma),.int .i64 hnd,.int .i64 pins,.bool false,.map none,.sl .full [],.sl .full []]):=by
 obtain ⟨σ1,h1,h2,_⟩:=h
 exact h1.at h2.hp
theorem PS.hr (h:PS base σ p d ra ma own hnd pins fs am pin m n g):σ ra=some (.obj (fs.map frV)):=by
 obtain ⟨σ1,h1,h2,_⟩:=h
 exact h1.at h2.hr
theorem PS.hm (h:PS base σ p d ra ma own hnd pins fs am pin m n g):σ ma=some (.map am):=by
 obtain ⟨σ1,h1,h2,_⟩:=h
 exact h1.at h2.hm
theorem PS.hf (h:PS base σ p d ra ma own hnd pins fs am pin m n g) (hi:fs[i]? = some (some f)):σ f.fa=some (.obj [.ptr p 0,.int .i64 f.page,.msl f.xa 0 504 f.c,.int .i64 (pinV pin i),.bool f.used,.bool f.dirty]):=by
 obtain ⟨σ1,h1,h2,_⟩:=h
 exact h1.at (h2.hf i f hi)
theorem PS.hx (h:PS base σ p d ra ma own hnd pins fs am pin m n g) (hi:fs[i]? = some (some f)) (hn:pin≠some i):σ f.xa=some (.obj (bytesAV f.bs)):=by
 obtain ⟨σ1,h1,h2,_⟩:=h
 exact h1.at (h2.hx i f hi hn)
theorem PS.hb (h:PS base σ p d ra ma own hnd pins fs am pin m n g) {x:Nat} {r:Role} (hx:base x=some r):σ x=some r:=by
 obtain ⟨σ1,h1,h2,_⟩:=h
 exact h1.at (h2.ext x r hx)
theorem PS.setP (h:PS base σ p d ra ma own hnd pins fs am pin m n g) (hand' pins':Int) :
  PS base (σ.set p (some (.obj [.ptr d 0,.msl ra 0 fs.length fs.length,.map (some ma),.int .i64 hand',.int .i64 pins',.bool false,.map none,.sl .full [],.sl .full []]))) p d ra ma own hand' pins' fs am pin m n g:=by
 obtain ⟨σ1,h1,h2,h3⟩:=h
 exact ⟨_,h1.put _ h2.hp,h2.setP hand' pins',h3⟩
theorem PS.setM (h:PS base σ p d ra ma own hnd pins fs am pin m n g) (am':List (Int×Int)):PS base (σ.set ma (some (.map am'))) p d ra ma own hnd pins fs am' pin m n g:=by
 obtain ⟨σ1,h1,h2,h3⟩:=h
 exact ⟨_,h1.put _ h2.hm,h2.setM am',h3⟩
theorem PS.setN (h:PS base σ p d ra ma own hnd pins fs am pin m n g) (hi:pin≠some i):PS base (σ.set ra (some (.obj ((fs.set i none).map frV)))) p d ra ma own hnd pins (fs.set i none) am pin m n g:=by
 obtain ⟨σ1,h1,h2,h3⟩:=h
 exact ⟨_,h1.put _ h2.hr,h2.setN hi,h3⟩
theorem PS.setF (h:PS base σ p d ra ma own hnd pins fs am pin m n g) (hi:fs[i]? = some (some f)) (u y:Bool) :
  PS base (σ.set f.fa (some (.obj [.ptr p 0,.int .i64 f.page,.msl f.xa 0 504 f.c,.int .i64 (pinV pin i),.bool u,.bool y]))) p d ra ma own hnd pins (fs.set i (some { f with used:=u,dirty:=y })) am pin m n g:=by
 obtain ⟨σ1,h1,h2,h3⟩:=h
 exact ⟨_,h1.put _ (h2.hf i f hi),h2.setF hi u y,h3⟩
theorem pinV_none (i:Nat):pinV none i=0:=if_neg (by intro h;cases h)
theorem row_get {o:Option Frm} (h:fs[i]? = some o):(fs.map frV)[i]? = some (frV o):=by rw [List.getElem?_map,h];rfl
theorem row_set (hl:i<fs.length) (o:Option Frm):(fs.map frV).take i ++ [frV o]++(fs.map frV).drop (i+1)=(fs.set i o).map frV:=by
 rw [List.map_set,List.set_eq_take_append_cons_drop,if_pos (by rw [List.length_map];exact hl)]
 simp only [List.append_assoc,List.singleton_append,List.cons_append,List.nil_append]
set_option maxHeartbeats 1000000 in
theorem plvictim_ok (h:PS base σ p d ra ma own (hand:Int) 0 fs am none m n g) (hw:PW fs am g pg) (hh:hand<fs.length) (hk:fs.length<=1000) :
  ACalls Tryz.prog 82 [.ptr p 0] σ fun v σ'=>∃ (i hand':Nat) (fs':List (Option Frm)),v = .int .i64 i/\i<fs'.length/\fs'.length=fs.length/\hand'<fs.length/\PS base σ' p d ra ma own (hand':Int) 0 fs' am none m n g/\PW fs' am g pg/\∀ (j:Nat) (k:Frm),fs'[j]? = some (some k)->∃ k',fs[j]? = some (some k')/\k'.page=k.page:=by
 obtain ⟨k,hkk⟩:∃ k,k=fs.length:=⟨_,rfl⟩
 have hp0:=h.hp
 rw [<-hkk] at hh hk hp0
 refine a82 (by simp) ?_
 simp (disch:=first|assumption|omega|(simp only [List.length_append,List.length_cons,List.length_nil];omega)) only [go_sem,hp0]
 obtain ⟨J,hJ⟩:∃ J:Nat->AFr->ASt->Prop,J=fun j a1 s2=>j<=k/\(a1 0 = .ptr p 0/\a1 10 = .int .i64 (2*(k:Int))/\a1 11 = .int .i64 j)/\∃ (hd:Nat) (fs':List (Option Frm)),hd=(hand+j) % k/\fs'.length=k/\PS base s2 p d ra ma own (hd:Int) 0 fs' am none m n g/\PW fs' am g pg ∧
  (∀ t,t<j->∃ f,fs'[(hand+t) % k]? = some (some f)/\f.used=false)/\∀ (j:Nat) (k:Frm),fs'[j]? = some (some k)->∃ k',fs[j]? = some (some k')/\k'.page=k.page:=⟨_,rfl⟩
 refine wp_loop_on J (fun j=>k+1-j) 0 ?_ ?_
 ·rw [hJ]
  refine ⟨Nat.zero_le _,?_,hand,fs,?_,hkk.symm,h,hw,fun t ht=>absurd ht (Nat.not_lt_zero _),fun j k hj=>⟨k,hj,rfl⟩⟩
  ·simp (disch:=first|assumption|omega|(simp only [List.length_append,List.length_cons,List.length_nil];omega)) only [go_sem]
  ·rw [Nat.add_zero,Nat.mod_eq_of_lt hh]
 intro j a1 s2 hj
 rw [hJ] at hj
 obtain ⟨hj,hf,hd,fs',hhd,hl,hs,hw',hu,hsm⟩:=hj
 have hdl:hd<k:=by rw [hhd];exact Nat.mod_lt _ (by omega)
 have hp1:=hs.hp
 rw [hl] at hp1
 have hlt:(j:Int)<2*(k:Int):=by omega
 have k0:¬ (k:Int)=0:=by omega
 obtain ⟨hd',hhd'⟩:∃ q,q=(hd+1) % k:=⟨_,rfl⟩
 have e:((hd:Int)+1).tmod (k:Int)=(hd':Int):=by
  rw [Int.tmod_eq_emod_of_nonneg (by omega),hhd']
  rfl
 have hd2:hd'=(hand+(j+1)) % k:=by
  rw [hhd',hhd,Nat.mod_add_mod,Nat.add_assoc]
 have hdl':hd'<k:=by rw [hhd'];exact Nat.mod_lt _ (by omega)
 have hs2:=hs.setP (hd':Int) 0
 rw [hl] at hs2
 have hi:(hd:Int)<(k:Int):=by omega
 obtain ⟨o, ho⟩ : ∃ o, fs'[hd]? = some o := ⟨fs'[hd]'(by omega), List.getElem?_eq_getElem (by omega)⟩
 have hrow:=hs2.hr
 have hget:=row_get (fs:=fs') ho
 have hp2:=hs2.hp
 rw [hl] at hp2
 obtain ⟨s3,hs3⟩:∃ s,s=s2.set p (some (.obj [.ptr d 0,.msl ra 0 k k,.map (some ma),.int .i64 (hd':Int),.int .i64 0,.bool false,.map none,.sl .full [],.sl .full []])):=⟨_,rfl⟩
 rw [<-hs3] at hs2 hrow hp2
 generalize hMR:fs'.map frV=MR at *
 cases o with
 | none=>
   have hv:frV none = .nilp:=rfl
   rw [hv] at hget
   simp (disch:=first|assumption|omega|(simp only [List.length_append,List.length_cons,List.length_nil];omega)) only [go_sem,hf,hlt,hp1,e]
   rw [<-hs3]
   simp (disch:=first|assumption|omega|(simp only [List.length_append,List.length_cons,List.length_nil];omega)) only [go_sem,hf,hp2,hrow,hget,Int.toNat_natCast,Nat.zero_add]
   exact retC_by (.refl _) (.refl _) ⟨hd,hd',fs',rfl,by omega,by omega,by omega,hs2,hw',hsm⟩
 | some f=>
   have hv:frV (some f) = .ptr f.fa 0:=rfl
   rw [hv] at hget
   have hfa:=hs2.hf ho
   rw [pinV_none] at hfa
   cases hfu:f.used with
   | false=>
     rw [hfu] at hfa
     simp (disch:=first|assumption|omega|(simp only [List.length_append,List.length_cons,List.length_nil];omega)) only [go_sem,hf,hlt,hp1,e]
     rw [<-hs3]
     simp (disch:=first|assumption|omega|(simp only [List.length_append,List.length_cons,List.length_nil];omega)) only [go_sem,hf,hp2,hrow,hget,hfa,Int.toNat_natCast,Nat.zero_add]
     exact retC_by (.refl _) (.refl _) ⟨hd,hd',fs',rfl,by omega,by omega,by omega,hs2,hw',hsm⟩
   | true=>
     rw [hfu] at hfa
     have hjk:j<k:=by
      refine Classical.byContradiction fun hc=>?_
      have hjk:j=k:=by omega
      obtain ⟨f',h1,h2⟩:=hu 0 (by omega)
      have:(hand+0) % k=hd:=by rw [hhd,hjk,Nat.add_zero,Nat.add_mod_right]
      rw [this,ho] at h1
      injection h1 with h1;injection h1 with h1;subst h1
      rw [hfu] at h2;cases h2
     have hs4:=hs2.setF ho false f.dirty
     have hw4:=hw'.flag ho false f.dirty (.inr (.inl rfl))
     rw [pinV_none] at hs4
     simp (disch:=first|assumption|omega|(simp only [List.length_append,List.length_cons,List.length_nil];omega)) only [go_sem,hf,hlt,hp1,e]
     rw [<-hs3]
     simp (disch:=first|assumption|omega|(simp only [List.length_append,List.length_cons,List.length_nil];omega)) only [go_sem,hf,hp2,hrow,hget,hfa,Int.toNat_natCast,Nat.zero_add]
     refine ⟨j+1,by omega,?_⟩
     rw [hJ]
     refine ⟨hjk,?_,hd',_,hd2,by rw [List.length_set];exact hl,hs4,hw4,fun t ht=>?_,fun j2 k2 hj2=>?_⟩
     ·simp (disch:=first|assumption|omega|(simp only [List.length_append,List.length_cons,List.length_nil];omega)) only [go_sem,hf]
     ·by_cases htj:t=j
      ·subst htj
       rw [<-hhd]
       exact ⟨_,List.getElem?_set_self (by omega),rfl⟩
      ·obtain ⟨f',h1,h2⟩:=hu t (by omega)
       by_cases hq:(hand+t) % k=hd
       ·rw [hq]
        exact ⟨_,List.getElem?_set_self (by omega),rfl⟩
       ·rw [List.getElem?_set_ne (Ne.symm hq)]
        exact ⟨f',h1,h2⟩
     ·rcases set_some (f:=f) hj2 with ⟨rfl,h2⟩|⟨_,h2⟩
      ·injection h2 with h2;subst h2
       exact hsm _ f ho
      ·exact hsm j2 k2 h2
end
end Go.A
namespace Go.A
open Go.Proofs
/-! 52: (*tabular/pool.Pool).room -/
def c52_26:ACode := .seq (.ops [ oq 2 (.mv (.v (.int .i64 0))),oq 3 (.mv (.v (.int .i64 0)))]) (.seq (.ops [ oq 7 (.mv (.t 0)),oe 8 (.call 82 [(.t 7)]),oq 4 (.mv (.t 8))]) (.seq (.seq (.ops [ oq 9 (.mv (.t 4)),oq 10 (.bin .lss (.t 9) (.v (.int .i64 0)))]) (.cond (.t 10) (.seq (.ops [ oq 2 (.mv (.v (.int .i64 0))),oq 3 (.mv (.v (.int .i64 9)))]) .ret) .skip)) (.seq (.seq (.ops [ oq 11 (.mv (.t 0)),oq 12 (.nc (.t 11)),oq 13 (.fa 1 (.t 12)),oq 14 (.ld none (.t 13)),oq 15 (.mv (.t 4)),oq 16 (.ia 1 (.t 14) (.t 15)),oq 17 (.ld none (.t 16)),oq 5 (.mv (.t 17))]) (.seq (.ops [ oq 18 (.mv (.t 5)),oq 19 (.eq .p true (.t 18) (.v .nilp))]) (.cond (.t 19) (.seq (.seq (.ops [ oq 20 (.mv (.t 0)),oq 21 (.mv (.t 5)),oe 22 (.call 83 [(.t 20),(.t 21)]),oq 6 (.mv (.t 22))]) (.seq (.ops [ oq 23 (.mv (.t 6)),oq 24 (.bin .neq (.t 23) (.v (.int .i64 0)))]) (.cond (.t 24) (.seq (.ops [ oq 25 (.mv (.t 6)),oq 2 (.mv (.v (.int .i64 0))),oq 3 (.mv (.t 25))]) .ret) .skip))) (.ops [ oq 26 (.mv (.t 0)),oq 27 (.mv (.t 5)),oq 28 (.nc (.t 27)),oq 29 (.fa 1 (.t 28)),oq 30 (.ld none (.t 29)),oe 31 (.call 84 [(.t 26),(.t 30)])])) .skip))) (.seq (.ops [ oq 32 (.mv (.t 4)),oq 2 (.mv (.t 32)),oq 3 (.mv (.v (.int .i64 0)))]) .ret))))
@[go_sem] def c52_26_wp:=wp_of c52_26.eq_1
def c52:AFn:=⟨33,[.t 2,.t 3],c52_26⟩
theorem c52_ok:compF Tryz.prog Tryz.f52=some c52:=by kernel_rfl
theorem a52 {args:List AV} {σ:ASt} {R:AV->ASt->Prop} (hl:args.length<=33) (h:c52_26.wp Tryz.prog (RetQ [.t 2,.t 3] R) (init args) σ):ACalls Tryz.prog 52 args σ R:=acalls_of Tryz.func52 c52_ok hl h
/-! 53: (*tabular/pool.Pool).lay -/
def c53_11:ACode := .seq (.ops [ oq 8 (.mv (.v .nilp))]) (.seq (.ops [ oq 10 (.mv (.t 0)),oq 11 (.mv (.t 2)),oq 12 (.mv (.t 3)),oe 13 (.s2b (.t 12)),oq 14 (.build [.nilp,(.int .i64 0),(.sl .full []),(.int .i64 0),(.bool false),(.bool false)] [(0,1,(.t 10)),(1,1,(.t 11)),(2,1,(.t 13)),(3,1,(.v (.int .i64 1))),(4,1,(.v (.bool true)))]),oe 15 (.box (.t 14)),oq 9 (.mv (.t 15))]) (.seq (.ops [ oq 16 (.mv (.t 0)),oq 17 (.nc (.t 16)),oq 18 (.fa 1 (.t 17)),oq 19 (.ld none (.t 18)),oq 20 (.mv (.t 1)),oq 21 (.mv (.t 9)),oq 22 (.ia 1 (.t 19) (.t 20)),oz (.store 1 (.t 22) (.t 21))]) (.seq (.ops [ oq 23 (.mv (.t 0)),oq 24 (.nc (.t 23)),oq 25 (.fa 2 (.t 24)),oq 26 (.ld none (.t 25)),oq 27 (.mv (.t 2)),oq 28 (.mv (.t 1)),oz (.mset (.t 26) (.t 27) (.t 28))]) (.seq (.ops [ oq 29 (.mv (.t 0)),oq 30 (.nc (.t 29)),oq 31 (.fa 4 (.t 30)),oq 32 (.ld none (.t 31)),oq 33 (.bin .add (.t 32) (.v (.int .i64 1))),oq 34 (.nc (.t 29)),oq 35 (.fa 4 (.t 34)),oz (.store 1 (.t 35) (.t 33))]) (.seq (.ops [ oq 36 (.mv (.t 9)),oq 8 (.mv (.t 36))]) .ret)))))
@[go_sem] def c53_11_wp:=wp_of c53_11.eq_1
def c53:AFn:=⟨37,[.t 8],c53_11⟩
theorem c53_ok:compF Tryz.prog Tryz.f53=some c53:=by kernel_rfl
theorem a53 {args:List AV} {σ:ASt} {R:AV->ASt->Prop} (hl:args.length<=37) (h:c53_11.wp Tryz.prog (RetQ [.t 8] R) (init args) σ):ACalls Tryz.prog 53 args σ R:=acalls_of Tryz.func53 c53_ok hl h
/-! 83: (*tabular/pool.Pool).write -/
def c83_13:ACode := .seq (.ops [ oq 4 (.mv (.v (.int .i64 0)))]) (.seq (.seq (.ops [ oq 6 (.mv (.t 1)),oq 7 (.nc (.t 6)),oq 8 (.fa 5 (.t 7)),oq 9 (.ld none (.t 8)),oq 10 (.un .not (.t 9))]) (.cond (.t 10) (.seq (.ops [ oq 4 (.mv (.v (.int .i64 0)))]) .ret) .skip)) (.seq (.ops [ oq 11 (.mv (.t 0)),oq 12 (.nc (.t 11)),oq 13 (.fa 0 (.t 12)),oq 14 (.ld none (.t 13)),oq 15 (.mv (.t 1)),oq 16 (.nc (.t 15)),oq 17 (.fa 1 (.t 16)),oq 18 (.ld none (.t 17)),oq 19 (.mv (.t 1)),oq 20 (.nc (.t 19)),oq 21 (.fa 2 (.t 20)),oq 22 (.ld none (.t 21)),oq 23 (.b2s (.t 22)),oe 24 (.call 107 [(.t 14),(.t 18),(.t 23)]),oq 5 (.mv (.t 24))]) (.seq (.ops [ oq 25 (.mv (.t 1)),oq 26 (.mv (.t 5)),oq 27 (.bin .neq (.t 26) (.v (.int .i64 0))),oq 28 (.nc (.t 25)),oq 29 (.fa 5 (.t 28)),oz (.store 1 (.t 29) (.t 27))]) (.seq (.ops [ oq 30 (.mv (.t 5)),oq 4 (.mv (.t 30))]) .ret))))
@[go_sem] def c83_13_wp:=wp_of c83_13.eq_1
def c83:AFn:=⟨31,[.t 4],c83_13⟩
theorem c83_ok:compF Tryz.prog Tryz.f83=some c83:=by kernel_rfl
theorem a83 {args:List AV} {σ:ASt} {R:AV->ASt->Prop} (hl:args.length<=31) (h:c83_13.wp Tryz.prog (RetQ [.t 4] R) (init args) σ):ACalls Tryz.prog 83 args σ R:=acalls_of Tryz.func83 c83_ok hl h
/-! 84: (*tabular/pool.Pool).forget -/
def c84_7:ACode := .seq (.ops [ oq 7 (.mv (.t 0)),oq 8 (.nc (.t 7)),oq 9 (.fa 2 (.t 8)),oq 10 (.ld none (.t 9)),oq 11 (.mv (.t 1)),oq 12 (.mget (.t 10) (.t 11)),oq 6 (.mv (.t 12)),oq 13 (.ext 0 (.t 6)),oq 14 (.ext 1 (.t 6)),oq 4 (.mv (.t 13)),oq 5 (.mv (.t 14))]) (.seq (.ops [ oq 15 (.mv (.t 5))]) (.cond (.t 15) (.seq (.ops [ oq 16 (.mv (.t 0)),oq 17 (.nc (.t 16)),oq 18 (.fa 1 (.t 17)),oq 19 (.ld none (.t 18)),oq 20 (.mv (.t 4)),oq 21 (.ia 1 (.t 19) (.t 20)),oz (.store 1 (.t 21) (.v .nilp))]) (.ops [ oq 22 (.mv (.t 0)),oq 23 (.nc (.t 22)),oq 24 (.fa 2 (.t 23)),oq 25 (.ld none (.t 24)),oq 26 (.mv (.t 1)),oz (.mdel (.t 25) (.t 26))])) .skip))
@[go_sem] def c84_7_wp:=wp_of c84_7.eq_1
def c84:AFn:=⟨27,[],c84_7⟩
theorem c84_ok:compF Tryz.prog Tryz.f84=some c84:=by kernel_rfl
theorem a84 {args:List AV} {σ:ASt} {R:AV->ASt->Prop} (hl:args.length<=27) (h:c84_7.wp Tryz.prog (RetQ [] R) (init args) σ):ACalls Tryz.prog 84 args σ R:=acalls_of Tryz.func84 c84_ok hl h
end Go.A
namespace Go.A
open Go.Proofs
section
variable {base σ:ASt} {p d ra ma n hand:Nat} {own:Nat->Nat} {pins hnd:Int} {fs:List (Option Frm)} {am:List (Int×Int)} {pin:Option Nat} {m:Int} {g pg:Pgs} {i q:Nat} {f:Frm} {s t:List UInt8}
theorem PS.ckT (h:PS base σ p d ra ma own hnd pins fs am pin m n g):CkT base:=by
 obtain ⟨σ1,h1,h2,h3⟩:=h
 exact h3
theorem pswrite_ok (h:PS base σ p d ra ma own hnd pins fs am pin m n g) (hp:g q=some t) (hs:s.length=504) :
  ACalls Tryz.prog 107 [.ptr d 0,.int .i64 q,.str s] σ fun v σ'=>v = .int .i64 0/\PS base σ' p d ra ma own hnd pins fs am pin m n (pset g q (some s)):=by
 obtain ⟨σ1,h1,h2,h3⟩:=h
 refine (ddwrite_ok (h2.ext _ _ h3) h1 hp hs).mono ?_
 rintro v σ' ⟨h4,h5⟩
 exact ⟨h4,σ1,h5,h2,h3⟩
theorem psread_ok (h:PS base σ p d ra ma own hnd pins fs am pin m n g) (hp:g q=some s) :
  ACalls Tryz.prog 101 [.ptr d 0,.int .i64 q] σ fun v σ'=>v = .tuple [.str s,.int .i64 0]/\PS base σ' p d ra ma own hnd pins fs am pin m n g:=by
 obtain ⟨σ1,h1,h2,h3⟩:=h
 refine (ddread_ok (h2.ext _ _ h3) h1 hp).mono ?_
 rintro v σ' ⟨h4,h5⟩
 exact ⟨h4,σ1,h5,h2,h3⟩
theorem pshas_ok (h:PS base σ p d ra ma own hnd pins fs am pin m n g) (hp:g q=some s) :
  ACalls Tryz.prog 100 [.ptr d 0,.int .i64 q] σ fun v σ'=>v = .bool true/\σ'=σ:=by
 obtain ⟨σ1,h1,h2,h3⟩:=h
 exact ddhas_ok h1 hp
theorem pstake_ok (h:PS base σ p d ra ma own hnd pins fs am pin m n g) (hroom:(n:Int)<m) :
  ACalls Tryz.prog 14 [.ptr d 0] σ fun v σ'=>∃ q:Nat,v = .tuple [.int .i64 q,.int .i64 0]/\g q=none/\1<=q/\q<60000/\PS base σ' p d ra ma own hnd pins fs am pin m (n+1) (pset g q (some (List.replicate 504 0))):=by
 obtain ⟨σ1,h1,h2,h3⟩:=h
 refine (ddtake_ok (h2.ext _ _ h3) h1 hroom).mono ?_
 rintro v σ' ⟨q,h4,h6,h7,h8,h5⟩
 exact ⟨q,h4,h6,h7,h8,σ1,h5,h2,h3⟩
theorem psgive_ok (h:PS base σ p d ra ma own hnd pins fs am pin m n g) (hp:g q=some t) :
  ACalls Tryz.prog 123 [.ptr d 0,.int .i64 q] σ fun v σ'=>v = .int .i64 0/\PS base σ' p d ra ma own hnd pins fs am pin m n (pset g q none):=by
 obtain ⟨σ1,h1,h2,h3⟩:=h
 refine (ddgive_ok (h2.ext _ _ h3) h1 hp).mono ?_
 rintro v σ' ⟨h4,h5⟩
 exact ⟨h4,σ1,h5,h2,h3⟩
theorem fset_id (hi:fs[i]? = some (some f)):fs.set i (some f)=fs:=by
 refine List.ext_getElem? fun j=>?_
 by_cases hj:j=i
 ·subst hj
  rw [List.getElem?_set_self (List.getElem?_eq_some_iff.1 hi).1,hi]
 ·rw [List.getElem?_set_ne (Ne.symm hj)]
theorem plwrite_ok (h:PS base σ p d ra ma own hnd pins fs am none m n g) (hw:PW fs am g pg) (hi:fs[i]? = some (some f)) :
  ACalls Tryz.prog 83 [.ptr p 0,.ptr f.fa 0] σ fun v σ'=>v = .int .i64 0/\∃ g',PS base σ' p d ra ma own hnd pins (fs.set i (some { f with dirty:=false })) am none m n g'/\PW (fs.set i (some { f with dirty:=false })) am g' pg/\g' f.page=some f.bs:=by
 have hp:=h.hp
 have hf:=h.hf hi
 rw [pinV_none] at hf
 obtain ⟨s,hg,hgd⟩:=hw.has i f hi
 obtain ⟨hbl,hcl⟩:=hw.len i f hi
 cases hd:f.dirty with
 | false=>
   rw [hd] at hf
   have he:({ f with dirty:=false }:Frm)=f:=by rw [<-hd]
   have h2:=hgd hd
   rw [h2] at hg
   refine a83 (by simp) ?_
   simp (disch:=first|assumption|omega|(simp only [List.length_append,List.length_cons,List.length_nil];omega)) only [go_sem,hf]
   exact retC_by (.refl _) (.refl _) ⟨rfl,g,by rw [he,fset_id hi];exact h,by rw [he,fset_id hi];exact hw,hg⟩
 | true=>
   rw [hd] at hf
   have hx:=h.hx hi (by simp)
   have hwr:=pswrite_ok h hg hbl
   have hl:504<=f.bs.length:=by omega
   have ht:(bytesAV f.bs).take 504=bytesAV f.bs:=List.take_of_length_le (by rw [kbytes_len];omega)
   refine a83 (by simp) ?_
   simp (disch:=first|assumption|omega|(simp only [List.length_append,List.length_cons,List.length_nil];omega)) only [go_sem,hf,hp,hx,hl,ht,List.drop_zero,Nat.zero_add]
   refine hwr.mono ?_
   rintro v σ' ⟨rfl,h2⟩
   have hf2:=h2.hf hi
   rw [pinV_none] at hf2
   have h3:=h2.setF hi f.used false
   rw [pinV_none] at h3
   have h4:=(hw.disk hi).flag hi f.used false (.inr (.inr (pset_same _ _ _)))
   simp (disch:=first|assumption|omega|(simp only [List.length_append,List.length_cons,List.length_nil];omega)) only [go_sem,hf2]
   exact retC_by (.refl _) (.refl _) ⟨rfl,_,h3,h4,pset_same _ _ _⟩
theorem plforget_ok (h:PS base σ p d ra ma own hnd pins fs am pin m n g) (hn:pin≠some i) (hi:i<fs.length) (hq:findM am (q:Int)=some (i:Int)) :
  ACalls Tryz.prog 84 [.ptr p 0,.int .i64 q] σ fun v σ'=>v = .tuple []/\PS base σ' p d ra ma own hnd pins (fs.set i none) (delM am (q:Int)) pin m n g:=by
 have hp:=h.hp
 have hm:=h.hm
 have hr:=h.hr
 have h2:=h.setN hn
 have h3:=h2.setM (delM am (q:Int))
 have hp2:=h2.hp
 have hm2:=h2.hm
 have hrs:=row_set hi none
 have hrl:(fs.map frV).length=fs.length:=List.length_map _
 rw [List.length_set] at hp2
 have hv:frV none = .nilp:=rfl
 rw [hv] at hrs
 generalize (fs.set i none).map frV=R2 at *
 generalize fs.map frV=R1 at *
 have i1:(i:Int)<(fs.length:Int):=by omega
 have i2:i+1<=R1.length:=by omega
 obtain ⟨s2,hs2⟩:∃ s2,s2=σ.set ra (some (.obj R2)):=⟨_,rfl⟩
 rw [<-hs2] at hp2 hm2 h3
 refine a84 (by simp) ?_
 simp (disch:=first|assumption|omega|(simp only [List.length_append,List.length_cons,List.length_nil];omega)) only [go_sem,hp,hm,hq,Option.getD_some,Option.isSome_some,hr,Int.toNat_natCast,Nat.zero_add,i2,hrs]
 rw [<-hs2]
 simp (disch:=first|assumption|omega|(simp only [List.length_append,List.length_cons,List.length_nil];omega)) only [go_sem,hp2,hm2]
 exact retC_by (.refl _) (.refl _) ⟨rfl,h3⟩
theorem plforget_no (h:PS base σ p d ra ma own hnd pins fs am pin m n g) (hq:findM am (q:Int)=none) :
  ACalls Tryz.prog 84 [.ptr p 0,.int .i64 q] σ fun v σ'=>v = .tuple []/\σ'=σ:=by
 have hp:=h.hp
 have hm:=h.hm
 refine a84 (by simp) ?_
 simp (disch:=first|assumption|omega|(simp only [List.length_append,List.length_cons,List.length_nil];omega)) only [go_sem,hp,hm,hq,Option.getD_none,Option.isSome_none]
 exact retC_by (.refl _) (.refl _) ⟨rfl,rfl⟩
theorem plroom_ok (h:PS base σ p d ra ma own (hand:Int) 0 fs am none m n g) (hw:PW fs am g pg) (hh:hand<fs.length) (hk:fs.length<=1000) :
  ACalls Tryz.prog 52 [.ptr p 0] σ fun v σ'=>∃ (i hand':Nat) (fs':List (Option Frm)) (am':List (Int×Int)) (g':Pgs),v = .tuple [.int .i64 i,.int .i64 0]/\fs'[i]? = some none/\fs'.length=fs.length/\hand'<fs'.length/\PS base σ' p d ra ma own (hand':Int) 0 fs' am' none m n g'/\PW fs' am' g' pg ∧
   ∀ (j:Nat) (k:Frm),fs'[j]? = some (some k)->∃ k',fs[j]? = some (some k')/\k'.page=k.page:=by
 refine a52 (by simp) ?_
 simp (disch:=first|assumption|omega|(simp only [List.length_append,List.length_cons,List.length_nil];omega)) only [go_sem]
 refine (plvictim_ok h hw hh hk).mono ?_
 rintro v σ1 ⟨i,hand',fs1,rfl,hi,hl1,hh1,h1,hw1,hsm⟩
 have hp:=h1.hp
 have hr:=h1.hr
 obtain ⟨o, ho⟩ : ∃ o, fs1[i]? = some o := ⟨fs1[i]'(by omega), List.getElem?_eq_getElem (by omega)⟩
 have hget:=row_get (fs:=fs1) ho
 generalize fs1.map frV=MR at *
 have i0:¬ (i:Int)<0:=by omega
 have i1:(i:Int)<(fs1.length:Int):=by omega
 cases o with
 | none=>
   have hv:frV none = .nilp:=rfl
   rw [hv] at hget
   simp (disch:=first|assumption|omega|(simp only [List.length_append,List.length_cons,List.length_nil];omega)) only [go_sem,i0,hp,hr,hget,Int.toNat_natCast,Nat.zero_add]
   exact retC_by (.refl _) (.refl _) ⟨i,hand',fs1,am,g,rfl,ho,hl1,by omega,h1,hw1,hsm⟩
 | some f=>
   have hv:frV (some f) = .ptr f.fa 0:=rfl
   rw [hv] at hget
   have hwr:=plwrite_ok h1 hw1 ho
   simp (disch:=first|assumption|omega|(simp only [List.length_append,List.length_cons,List.length_nil];omega)) only [go_sem,i0,hp,hr,hget,Int.toNat_natCast,Nat.zero_add]
   refine hwr.mono ?_
   rintro v σ2 ⟨rfl,g2,h2,hw2,hg2⟩
   have hi2:(fs1.set i (some { f with dirty:=false }))[i]? = some (some { f with dirty:=false }):=List.getElem?_set_self (by omega)
   have hf2:=h2.hf hi2
   have ham:=hw2.am1 i _ hi2
   have hfg:=plforget_ok h2 (i:=i) (q:=f.page) (by simp) (by rw [List.length_set];omega) ham
   have hw3:=hw2.gone hi2 hg2
   dsimp only at hf2
   simp (disch:=first|assumption|omega|(simp only [List.length_append,List.length_cons,List.length_nil];omega)) only [go_sem,hf2]
   refine hfg.mono ?_
   rintro v σ3 ⟨rfl,h3⟩
   simp (disch:=first|assumption|omega|(simp only [List.length_append,List.length_cons,List.length_nil];omega)) only [go_sem]
   refine retC_by (.refl _) (.refl _) ⟨i,hand',_,_,g2,rfl,?_,?_,?_,h3,hw3,fun j k hj=>?_⟩
   ·rw [List.getElem?_set_self]
    rw [List.length_set];omega
   ·rw [List.length_set,List.length_set];exact hl1
   ·rw [List.length_set,List.length_set];omega
   ·rcases set_some (f:=f) hj with ⟨_,h5⟩|⟨h4,h5⟩
    ·cases h5
    ·rw [List.getElem?_set_ne (Ne.symm h4)] at h5
     exact hsm j k h5
theorem pllay_ok (h:PS base σ p d ra ma own hnd 0 fs am none m n g) (hi:fs[i]? = some none) (hl:s.length=504) (hk:fs.length<=1000) :
  ACalls Tryz.prog 53 [.ptr p 0,.int .i64 i,.int .i64 q,.str s] σ fun v σ'=>∃ (f:Frm) (own':Nat->Nat),v = .ptr f.fa 0/\f.page=q/\f.bs=s/\f.dirty=false/\504<=f.c/\σ f.xa=none ∧
   PS (base.set f.xa (some (.obj (bytesAV f.bs)))) σ' p d ra ma own' hnd 1 (fs.set i (some f)) (putM am (q:Int) (i:Int)) (some i) m n g:=by
 obtain ⟨σ1,h1,h2,h3⟩:=h
 refine a53 (by simp) ?_
 simp (disch:=first|assumption|omega|(simp only [List.length_append,List.length_cons,List.length_nil];omega)) only [go_sem]
 refine s2b_own fun xa c hxa hc=>?_
 simp (disch:=first|assumption|omega|(simp only [List.length_append,List.length_cons,List.length_nil];omega)) only [go_sem]
 refine boxC_by rfl fun fa hfa=>?_
 obtain ⟨e1,e2,hfz⟩:=set_none hfa
 have hg1:=h1.gone hxa
 have hg2:=h1.gone hfz
 obtain ⟨f,hf⟩:∃ f:Frm,f=⟨fa,xa,c,q,s,true,false⟩:=⟨_,rfl⟩
 have h4:=h2.addF (f:=f) hi (by rw [hf];exact hg2) (by rw [hf];exact hg1) (by rw [hf];exact e1)
 have h5:=h4.setM (putM am (q:Int) (i:Int))
 have h6:=h5.setP hnd 1
 have hlen:(fs.set i (some f)).length=fs.length:=List.length_set
 have hl':(s.length:Int)=504:=by omega
 have hil:i<fs.length:=(List.getElem?_eq_some_iff.1 hi).1
 have o1:=h2.o1
 have o2:=h2.o2
 have o3:=h2.o3
 have ne:∀ {y:Nat} {r:Role},σ1 y=some r->y≠fa/\y≠xa:=fun {y r} hy=>⟨fun e=>(by rw [e,hg2] at hy;cases hy),fun e=>(by rw [e,hg1] at hy;cases hy)⟩
 obtain ⟨pf,px⟩:=ne h2.hp
 obtain ⟨rf,rx⟩:=ne h2.hr
 obtain ⟨mf,mx⟩:=ne h2.hm
 have pr:p≠ra:=fun e=>by rw [e] at o1;omega
 have pm:p≠ma:=fun e=>by rw [e] at o1;omega
 have rm:ra≠ma:=fun e=>by rw [e] at o2;omega
 have mr:=Ne.symm rm
 have hp:=h1.at h2.hp
 have hr:=h1.at h2.hr
 have hm:=h1.at h2.hm
 have hrs:=row_set hil (some f)
 have hfv:frV (some f) = .ptr fa 0:=by rw [hf];rfl
 have hfc:f.cs p 1 = [.ptr p 0,.int .i64 q,.msl xa 0 504 c,.int .i64 1,.bool true,.bool false]:=by rw [hf];rfl
 have hrl:(fs.map frV).length=fs.length:=List.length_map _
 rw [hfv] at hrs
 have d2:=(h1.add (some (.obj (bytesAV s))) hxa).add (some (.obj (f.cs p 1))) hfa
 have d3:=d2.put (some (.obj ((fs.set i (some f)).map frV))) ((ASt.set_ne rf).trans ((ASt.set_ne rx).trans h2.hr))
 rw [hfc] at d3
 have hfx:f.xa=xa:=by rw [hf]
 have hff:f.fa=fa:=by rw [hf]
 have hfb:f.bs=s:=by rw [hf]
 rw [hfx,hff,hfb,hfc] at h4 h5 h6
 have d4:=d3.put (some (.map (putM am (q:Int) (i:Int)))) h4.hm
 have d5:=d4.put (some (.obj (plCs d ra ma (fs.set i (some f)).length hnd 1))) h5.hp
 have hfin:PS (base.set xa (some (.obj (bytesAV s)))) _ p d ra ma _ hnd 1 (fs.set i (some f)) (putM am (q:Int) (i:Int)) (some i) m n g:=⟨_,d5,h6,h3.away fun e=>by rw [e,h1.at (h2.ext _ _ h3)] at hxa;cases hxa⟩
 unfold plCs at hp hfin
 rw [hlen] at hfin
 have i1:(i:Int)<(fs.length:Int):=by omega
 have i2:i+1<=(fs.map frV).length:=by omega
 clear d2 d3 d4 d5 h4 h5 h6
 generalize (fs.set i (some f)).map frV=R2 at *
 generalize fs.map frV=R1 at *
 simp (disch:=first|assumption|omega|(simp only [List.length_append,List.length_cons,List.length_nil];omega)) only [go_sem,hl,hl',hp,hr,hm,Int.toNat_natCast,Nat.zero_add,hrs,i2]
 refine retC_by (r := .ptr fa 0) (.refl _) (.refl _) ⟨f,(fun x=>if x=fa then 2*i+3 else if x=xa then 2*i+4 else own x),by rw [hff],by rw [hf],hfb,by rw [hf],by rw [hf];show 504<=c;omega,by rw [hfx];exact hxa,?_⟩
 rw [hfx,hfb]
 exact hfin
end
end Go.A
namespace Go.A
open Go.Proofs
/-! 37: slices.Index[[]int,int] -/
def c37_15:ACode := .seq (.ops [ oq 9 (.bin .lss (.t 8) (.t 7))]) (.seq (.cond (.t 9) .skip (.exit 0)) (.seq (.block 1 (.seq (.ops [ oq 10 (.mv (.t 8)),oq 5 (.mv (.t 10))]) (.seq (.ops [ oq 11 (.mv (.t 1)),oq 12 (.mv (.t 0)),oq 13 (.mv (.t 5)),oq 14 (.ia 1 (.t 12) (.t 13)),oq 15 (.ld none (.t 14)),oq 16 (.bin .eql (.t 11) (.t 15))]) (.cond (.t 16) (.seq (.ops [ oq 17 (.mv (.t 5)),oq 4 (.mv (.t 17))]) .ret) .skip)))) (.ops [ oq 18 (.bin .add (.t 8) (.v (.int .i64 1))),oq 8 (.mv (.t 18))])))
def c37_22:ACode := .seq (.ops [ oq 4 (.mv (.v (.int .i64 0)))]) (.seq (.seq (.ops [ oq 6 (.mv (.t 0)),oq 7 (.len (.t 6)),oq 8 (.mv (.v (.int .i64 0)))]) (.block 0 (.loop c37_15))) (.seq (.ops [ oq 4 (.mv (.v (.int .i64 (-1))))]) .ret))
@[go_sem] def c37_15_wp:=wp_of c37_15.eq_1
@[go_sem] def c37_22_wp:=wp_of c37_22.eq_1
def c37:AFn:=⟨19,[.t 4],c37_22⟩
theorem c37_ok:compF Tryz.prog Tryz.f37=some c37:=by kernel_rfl
theorem a37 {args:List AV} {σ:ASt} {R:AV->ASt->Prop} (hl:args.length<=19) (h:c37_22.wp Tryz.prog (RetQ [.t 4] R) (init args) σ):ACalls Tryz.prog 37 args σ R:=acalls_of Tryz.func37 c37_ok hl h
/-! 76: (*tabular/pool.Pool).Pin -/
def c76_40:ACode := .seq (.seq (.ops [ oq 12 (.mv (.t 0)),oq 13 (.nc (.t 12)),oq 14 (.fa 0 (.t 13)),oq 15 (.ld none (.t 14)),oq 16 (.mv (.t 1)),oe 17 (.call 100 [(.t 15),(.t 16)]),oq 18 (.un .not (.t 17)),oq 19 (.mv (.t 18)),⟨some 20,some (19,false),.q (.mv (.t 0)),[]⟩,⟨some 21,some (19,false),.q (.nc (.t 20)),[]⟩,⟨some 22,some (19,false),.q (.fa 8 (.t 21)),[]⟩,⟨some 23,some (19,false),.q (.ld none (.t 22)),[]⟩,⟨some 24,some (19,false),.q (.mv (.t 1)),[]⟩,⟨some 25,some (19,false),.e (.call 85 [(.t 23),(.t 24)]),[]⟩,oq 26 (.pick (.t 19) (.v (.bool true)) (.t 25))]) (.cond (.t 26) (.seq (.ops [ oq 4 (.mv (.v .nilp)),oq 5 (.mv (.v (.int .i64 4)))]) .ret) .skip)) (.seq (.seq (.ops [ oq 28 (.mv (.t 0)),oq 29 (.nc (.t 28)),oq 30 (.fa 2 (.t 29)),oq 31 (.ld none (.t 30)),oq 32 (.mv (.t 1)),oq 33 (.mget (.t 31) (.t 32)),oq 27 (.mv (.t 33)),oq 34 (.ext 0 (.t 27)),oq 35 (.ext 1 (.t 27)),oq 6 (.mv (.t 34)),oq 7 (.mv (.t 35))]) (.seq (.ops [ oq 36 (.mv (.t 7))]) (.cond (.t 36) (.seq (.ops [ oq 37 (.mv (.t 0)),oq 38 (.nc (.t 37)),oq 39 (.fa 1 (.t 38)),oq 40 (.ld none (.t 39)),oq 41 (.mv (.t 6)),oq 42 (.ia 1 (.t 40) (.t 41)),oq 43 (.ld none (.t 42)),oq 8 (.mv (.t 43))]) (.seq (.ops [ oq 44 (.mv (.t 8)),oq 45 (.nc (.t 44)),oq 46 (.fa 3 (.t 45)),oq 47 (.ld none (.t 46)),oq 48 (.bin .add (.t 47) (.v (.int .i64 1))),oq 49 (.nc (.t 44)),oq 50 (.fa 3 (.t 49)),oz (.store 1 (.t 50) (.t 48))]) (.seq (.ops [ oq 51 (.mv (.t 8)),oq 52 (.nc (.t 51)),oq 53 (.fa 4 (.t 52)),oz (.store 1 (.t 53) (.v (.bool true)))]) (.seq (.ops [ oq 54 (.mv (.t 0)),oq 55 (.nc (.t 54)),oq 56 (.fa 4 (.t 55)),oq 57 (.ld none (.t 56)),oq 58 (.bin .add (.t 57) (.v (.int .i64 1))),oq 59 (.nc (.t 54)),oq 60 (.fa 4 (.t 59)),oz (.store 1 (.t 60) (.t 58))]) (.seq (.ops [ oq 61 (.mv (.t 8)),oq 4 (.mv (.t 61)),oq 5 (.mv (.v (.int .i64 0)))]) .ret))))) .skip))) (.seq (.ops [ oq 63 (.mv (.t 0)),oe 64 (.call 52 [(.t 63)]),oq 62 (.mv (.t 64)),oq 65 (.ext 0 (.t 62)),oq 66 (.ext 1 (.t 62)),oq 9 (.mv (.t 65)),oq 10 (.mv (.t 66))]) (.seq (.seq (.ops [ oq 67 (.mv (.t 10)),oq 68 (.bin .neq (.t 67) (.v (.int .i64 0)))]) (.cond (.t 68) (.seq (.ops [ oq 69 (.mv (.t 10)),oq 4 (.mv (.v .nilp)),oq 5 (.mv (.t 69))]) .ret) .skip)) (.seq (.ops [ oq 71 (.mv (.t 0)),oq 72 (.nc (.t 71)),oq 73 (.fa 0 (.t 72)),oq 74 (.ld none (.t 73)),oq 75 (.mv (.t 1)),oe 76 (.call 101 [(.t 74),(.t 75)]),oq 70 (.mv (.t 76)),oq 77 (.ext 0 (.t 70)),oq 78 (.ext 1 (.t 70)),oq 11 (.mv (.t 77)),oq 10 (.mv (.t 78))]) (.seq (.seq (.ops [ oq 79 (.mv (.t 10)),oq 80 (.bin .neq (.t 79) (.v (.int .i64 0)))]) (.cond (.t 80) (.seq (.ops [ oq 81 (.mv (.t 10)),oq 4 (.mv (.v .nilp)),oq 5 (.mv (.t 81))]) .ret) .skip)) (.seq (.ops [ oq 82 (.mv (.t 0)),oq 83 (.mv (.t 9)),oq 84 (.mv (.t 1)),oq 85 (.mv (.t 11)),oe 86 (.call 53 [(.t 82),(.t 83),(.t 84),(.t 85)]),oq 4 (.mv (.t 86)),oq 5 (.mv (.v (.int .i64 0)))]) .ret))))))
def c76_41:ACode := .seq (.ops [ oq 4 (.mv (.v .nilp)),oq 5 (.mv (.v (.int .i64 0)))]) c76_40
@[go_sem] def c76_40_wp:=wp_of c76_40.eq_1
@[go_sem] def c76_41_wp:=wp_of c76_41.eq_1
def c76:AFn:=⟨87,[.t 4,.t 5],c76_41⟩
theorem c76_ok:compF Tryz.prog Tryz.f76=some c76:=by kernel_rfl
theorem a76 {args:List AV} {σ:ASt} {R:AV->ASt->Prop} (hl:args.length<=87) (h:c76_41.wp Tryz.prog (RetQ [.t 4,.t 5] R) (init args) σ):ACalls Tryz.prog 76 args σ R:=acalls_of Tryz.func76 c76_ok hl h
/-! 85: slices.Contains[[]int,int] -/
def c85_3:ACode := .seq (.ops [ oq 4 (.mv (.v (.bool false)))]) (.seq (.ops [ oq 5 (.mv (.t 0)),oq 6 (.mv (.t 1)),oe 7 (.call 37 [(.t 5),(.t 6)]),oq 8 (.bin .geq (.t 7) (.v (.int .i64 0))),oq 4 (.mv (.t 8))]) .ret)
@[go_sem] def c85_3_wp:=wp_of c85_3.eq_1
def c85:AFn:=⟨9,[.t 4],c85_3⟩
theorem c85_ok:compF Tryz.prog Tryz.f85=some c85:=by kernel_rfl
theorem a85 {args:List AV} {σ:ASt} {R:AV->ASt->Prop} (hl:args.length<=9) (h:c85_3.wp Tryz.prog (RetQ [.t 4] R) (init args) σ):ACalls Tryz.prog 85 args σ R:=acalls_of Tryz.func85 c85_ok hl h
end Go.A
namespace Go.A
open Go.Proofs
section
variable {base σ:ASt} {p d ra ma n hand page fa xa c:Nat} {own:Nat->Nat} {pins hnd:Int} {fs:List (Option Frm)} {am:List (Int×Int)} {pin:Option Nat} {m:Int} {g pg:Pgs} {i q:Nat} {f:Frm} {s t:List UInt8} {dirty:Bool}
theorem PoolAt.open (h:PoolAt base σ p m n pg):∃ d ra ma own hand fs am g,PS base σ p d ra ma own ((hand:Nat):Int) 0 fs am none m n g/\PW fs am g pg/\hand<fs.length/\fs.length<=1000:=by
 obtain ⟨σ1,d,ra,ma,own,hand,fs,am,g,h1,h2,h3,h4,h5,h6⟩:=h
 exact ⟨d,ra,ma,own,hand,fs,am,g,⟨σ1,h1,h2,h6⟩,h3,h4,h5⟩
theorem PoolAt.shut (h:PS base σ p d ra ma own ((hand:Nat):Int) 0 fs am none m n g) (hw:PW fs am g pg) (h1:hand<fs.length) (h2:fs.length<=1000):PoolAt base σ p m n pg:=by
 obtain ⟨σ1,h3,h4,h5⟩:=h
 exact ⟨σ1,d,ra,ma,own,hand,fs,am,g,h3,h4,hw,h1,h2,h5⟩
theorem PinAt.open (h:PinAt base σ p m n pg page fa xa c dirty):∃ d ra ma own hand fs am g i f,PS base σ p d ra ma own ((hand:Nat):Int) 1 fs am (some i) m n g/\PW fs am g pg/\hand<fs.length/\fs.length<=1000 ∧
  fs[i]? = some (some f)/\f.page=page/\f.fa=fa/\f.xa=xa/\f.c=c/\f.dirty=dirty:=by
 obtain ⟨σ1,d,ra,ma,own,hand,fs,am,g,i,f,h1,h2,h3,h4,h5,h6,h7⟩:=h
 exact ⟨d,ra,ma,own,hand,fs,am,g,i,f,⟨σ1,h1,h2,h6⟩,h3,h4,h5,h7⟩
theorem PinAt.shut (h:PS base σ p d ra ma own ((hand:Nat):Int) 1 fs am (some i) m n g) (hw:PW fs am g pg) (h1:hand<fs.length) (h2:fs.length<=1000) (hi:fs[i]? = some (some f)):PinAt base σ p m n pg f.page f.fa f.xa f.c f.dirty:=by
 obtain ⟨σ1,h3,h4,h5⟩:=h
 exact ⟨σ1,d,ra,ma,own,hand,fs,am,g,i,f,h3,h4,hw,h1,h2,h5,hi,rfl,rfl,rfl,rfl,rfl⟩
theorem PS.pinned (h:PS base σ p d ra ma own hnd pins fs am none m n g) (hi:fs[i]? = some (some f)) (hk:f.xa≠0) :
  PS (base.set f.xa (some (.obj (bytesAV f.bs)))) (σ.set f.fa (some (.obj [.ptr p 0,.int .i64 f.page,.msl f.xa 0 504 f.c,.int .i64 1,.bool true,.bool f.dirty]))) p d ra ma own hnd pins (fs.set i (some { f with used:=true })) am (some i) m n g:=by
 obtain ⟨σ1,h1,h2,h3⟩:=h
 exact ⟨_,h1.put _ (h2.hf i f hi),h2.pinned hi true,h3.away hk⟩
theorem PS.unpin (h:PS base σ p d ra ma own hnd pins fs am (some i) m n g) (hi:fs[i]? = some (some f)) (hk:f.xa≠0) {bs:List UInt8} (hx:base f.xa=some (.obj (bytesAV bs))) :
  PS (base.set f.xa none) (σ.set f.fa (some (.obj [.ptr p 0,.int .i64 f.page,.msl f.xa 0 504 f.c,.int .i64 0,.bool f.used,.bool f.dirty]))) p d ra ma own hnd pins (fs.set i (some { f with bs:=bs })) am none m n g:=by
 obtain ⟨σ1,h1,h2,h3⟩:=h
 exact ⟨_,h1.put _ (h2.hf i f hi),h2.unpin hi hx,h3.away hk⟩
theorem PS.xa_ck (h:PS base σ p d ra ma own hnd pins fs am none m n g) (hi:fs[i]? = some (some f)):f.xa≠0/\base f.xa=none:=by
 obtain ⟨σ1,h1,h2,h3⟩:=h
 have hz:=(h2.z4 i f hi).2 (by simp)
 exact ⟨fun e=>by rw [e] at hz;exact absurd (hz.symm.trans h3) (by simp),hz⟩
theorem contains_nil (x:Int):Pure Tryz.prog 85 [.sl .full [],.int .i64 x] (.bool false):=by
 intro σ
 have hi:Pure Tryz.prog 37 [.sl .full [],.int .i64 x] (.int .i64 (-1)):=by
  intro σ
  refine a37 (by simp) ?_
  simp (disch:=first|assumption|omega|(simp only [List.length_append,List.length_cons,List.length_nil];omega)) only [go_sem]
  refine wp_loop_on (fun (i:Nat) a1 s2=>(a1 7 = .int .i64 0/\a1 8 = .int .i64 0)/\s2=σ) (fun _=>0) 0 ⟨?_,rfl⟩ ?_
  ·simp (disch:=first|assumption|omega|(simp only [List.length_append,List.length_cons,List.length_nil];omega)) only [go_sem]
  rintro i a1 s2 ⟨hf,rfl⟩
  simp (disch:=first|assumption|omega|(simp only [List.length_append,List.length_cons,List.length_nil];omega)) only [go_sem,hf]
  exact retC_by (.refl _) (.refl _) ⟨rfl,rfl⟩
 refine a85 (by simp) ?_
 simp (disch:=first|assumption|omega|(simp only [List.length_append,List.length_cons,List.length_nil];omega)) only [go_sem]
 refine hi.use ?_
 simp (disch:=first|assumption|omega|(simp only [List.length_append,List.length_cons,List.length_nil];omega)) only [go_sem]
 exact retC_by (.refl _) (.refl _) ⟨rfl,rfl⟩
set_option maxHeartbeats 1000000 in
theorem plpin_ok (h:PoolAt base σ p m n pg) (hq:pg q=some s) :
  ACalls Tryz.prog 76 [.ptr p 0,.int .i64 q] σ fun v σ'=>∃ (fa xa c:Nat) (dirty:Bool),v = .tuple [.ptr fa 0,.int .i64 0]/\base xa=none/\xa≠0/\504<=c/\PinAt (base.set xa (some (.obj (bytesAV s)))) σ' p m n pg q fa xa c dirty:=by
 obtain ⟨d,ra,ma,own,hand,fs,am,g,h1,hw,hh,hk⟩:=h.open
 obtain ⟨t,hg⟩:=hw.res hq
 have hhas:=pshas_ok h1 hg
 have hcn:=contains_nil (q:Int)
 have hp:=h1.hp
 have hm:=h1.hm
 have hr:=h1.hr
 cases ham:findM am (q:Int) with
 | some v=>
   obtain ⟨i,f,rfl,hi,hfq⟩:=hw.am2 q v ham
   have hfa:=h1.hf hi
   rw [pinV_none] at hfa
   have hbs:=hw.pg1 i f hi
   rw [hfq,hq] at hbs
   have hbs:=(Option.some.inj hbs).symm
   obtain ⟨hck,hz⟩:=h1.xa_ck hi
   have hil:i<fs.length:=(List.getElem?_eq_some_iff.1 hi).1
   have h2:=h1.pinned hi hck
   have hp2:=h2.hp
   have h3:=h2.setP hand 1
   have hw3:=hw.flag hi true f.dirty (.inr (.inl rfl))
   have hfin:=PinAt.shut h3 hw3 (by rw [List.length_set];exact hh) (by rw [List.length_set];exact hk) (List.getElem?_set_self hil)
   dsimp only at hfin
   rw [List.length_set] at hp2 hfin
   have hget:=row_get (fs:=fs) hi
   have hv:frV (some f) = .ptr f.fa 0:=rfl
   rw [hv] at hget
   generalize fs.map frV=MR at *
   have i1:(i:Int)<(fs.length:Int):=by omega
   obtain ⟨s2,hs2⟩:∃ s2,s2=σ.set f.fa (some (.obj [.ptr p 0,.int .i64 f.page,.msl f.xa 0 504 f.c,.int .i64 1,.bool true,.bool f.dirty])):=⟨_,rfl⟩
   rw [<-hs2] at hp2 hfin
   refine a76 (by simp) ?_
   simp (disch:=first|assumption|omega|(simp only [List.length_append,List.length_cons,List.length_nil];omega)) only [go_sem,hp]
   refine hhas.mono ?_
   rintro v σ1 ⟨rfl,rfl⟩
   simp (disch:=first|assumption|omega|(simp only [List.length_append,List.length_cons,List.length_nil];omega)) only [go_sem,hp]
   refine hcn.use ?_
   simp (disch:=first|assumption|omega|(simp only [List.length_append,List.length_cons,List.length_nil];omega)) only [go_sem,hp,hm,ham,Option.getD_some,Option.isSome_some,hr,hget,Int.toNat_natCast,Nat.zero_add,hfa]
   rw [<-hs2]
   simp (disch:=first|assumption|omega|(simp only [List.length_append,List.length_cons,List.length_nil];omega)) only [go_sem,hp2]
   refine retC_by (r := .tuple [.ptr f.fa 0,.int .i64 0]) (.refl _) (.refl _) ⟨f.fa,f.xa,f.c,f.dirty,rfl,hz,hck,(hw.len i f hi).2,?_⟩
   rw [<-hbs,← hfq]
   exact hfin
 | none=>
   have hroom:=plroom_ok h1 hw hh hk
   have hnr:∀ (j:Nat) (k:Frm),fs[j]? = some (some k)->k.page≠q:=fun j k hj he=>by
    have:=hw.am1 j k hj
    rw [he,ham] at this;cases this
   refine a76 (by simp) ?_
   simp (disch:=first|assumption|omega|(simp only [List.length_append,List.length_cons,List.length_nil];omega)) only [go_sem,hp]
   refine hhas.mono ?_
   rintro v σ1 ⟨rfl,rfl⟩
   simp (disch:=first|assumption|omega|(simp only [List.length_append,List.length_cons,List.length_nil];omega)) only [go_sem,hp]
   refine hcn.use ?_
   simp (disch:=first|assumption|omega|(simp only [List.length_append,List.length_cons,List.length_nil];omega)) only [go_sem,hp,hm,ham,Option.getD_none,Option.isSome_none]
   refine hroom.mono ?_
   rintro v σ2 ⟨i,hand',fs',am',g',rfl,hi,hl,hh',h2,hw2,hsm⟩
   have hnr2:∀ (j:Nat) (k:Frm),fs'[j]? = some (some k)->k.page≠q:=fun j k hj he=>by
    obtain ⟨k',h3,h4⟩:=hsm j k hj
    exact hnr j k' h3 (h4.trans he)
   have hg2:g' q=some s:=by rw [<-hw2.pg2 q hnr2];exact hq
   have hp2:=h2.hp
   have hrd:=psread_ok h2 hg2
   have hsl:s.length=504:=h.slen hq
   simp (disch:=first|assumption|omega|(simp only [List.length_append,List.length_cons,List.length_nil];omega)) only [go_sem,hp2]
   refine hrd.mono ?_
   rintro v σ3 ⟨rfl,h3⟩
   have hly:=pllay_ok (q:=q) h3 hi hsl (by omega)
   simp (disch:=first|assumption|omega|(simp only [List.length_append,List.length_cons,List.length_nil];omega)) only [go_sem]
   refine hly.mono ?_
   rintro v σ4 ⟨f,own',rfl,hfq,hfb,hfd,hfc,hz,h4⟩
   have hzb:base f.xa=none:=by
    cases hc:base f.xa with
    | none=>rfl
    | some r=>rw [h3.hb hc] at hz;cases hz
   have hck:f.xa≠0:=fun e=>by rw [e,h3.hb h3.ckT] at hz;cases hz
   have hil:i<fs'.length:=(List.getElem?_eq_some_iff.1 hi).1
   have hw4:=hw2.lay (f:=f) hi (by rw [hfq,hfb];exact hq) (by rw [hfq,hfb];exact hg2) (by rw [hfq];exact hnr2) ⟨by rw [hfb];exact hsl,hfc⟩
   rw [hfq] at hw4
   have hfin:=PinAt.shut h4 hw4 (by rw [List.length_set];exact hh') (by rw [List.length_set];omega) (List.getElem?_set_self hil)
   rw [hfq,hfb] at hfin
   simp (disch:=first|assumption|omega|(simp only [List.length_append,List.length_cons,List.length_nil];omega)) only [go_sem]
   exact retC_by (.refl _) (.refl _) ⟨f.fa,f.xa,f.c,f.dirty,rfl,hzb,hck,hfc,hfin⟩
end
end Go.A
namespace Go.A
open Go.Proofs
/-! 21: (*tabular/pool.Pool).Take -/
def c21_24:ACode := .seq (.ops [ oq 2 (.mv (.v .nilp)),oq 3 (.mv (.v (.int .i64 0)))]) (.seq (.ops [ oq 8 (.mv (.t 0)),oe 9 (.call 52 [(.t 8)]),oq 7 (.mv (.t 9)),oq 10 (.ext 0 (.t 7)),oq 11 (.ext 1 (.t 7)),oq 4 (.mv (.t 10)),oq 5 (.mv (.t 11))]) (.seq (.seq (.ops [ oq 12 (.mv (.t 5)),oq 13 (.bin .neq (.t 12) (.v (.int .i64 0)))]) (.cond (.t 13) (.seq (.ops [ oq 14 (.mv (.t 5)),oq 2 (.mv (.v .nilp)),oq 3 (.mv (.t 14))]) .ret) .skip)) (.seq (.ops [ oq 16 (.mv (.t 0)),oq 17 (.nc (.t 16)),oq 18 (.fa 0 (.t 17)),oq 19 (.ld none (.t 18)),oe 20 (.call 14 [(.t 19)]),oq 15 (.mv (.t 20)),oq 21 (.ext 0 (.t 15)),oq 22 (.ext 1 (.t 15)),oq 6 (.mv (.t 21)),oq 5 (.mv (.t 22))]) (.seq (.seq (.ops [ oq 23 (.mv (.t 5)),oq 24 (.bin .neq (.t 23) (.v (.int .i64 0)))]) (.cond (.t 24) (.seq (.ops [ oq 25 (.mv (.t 5)),oq 2 (.mv (.v .nilp)),oq 3 (.mv (.t 25))]) .ret) .skip)) (.seq (.seq (.ops [ oq 26 (.mv (.t 0)),oq 27 (.nc (.t 26)),oq 28 (.fa 5 (.t 27)),oq 29 (.ld none (.t 28))]) (.cond (.t 29) (.ops [ oq 30 (.mv (.t 0)),oq 31 (.mv (.t 0)),oq 32 (.nc (.t 31)),oq 33 (.fa 7 (.t 32)),oq 34 (.ld none (.t 33)),oq 35 (.mv (.t 6)),oq 36 (.bslv 1 [(.t 35)]),oe 37 (.app 3 1 8 [(.int .i64 0)] (.t 34) (.t 36)),oq 38 (.nc (.t 30)),oq 39 (.fa 7 (.t 38)),oz (.store 1 (.t 39) (.t 37))]) .skip)) (.seq (.ops [ oq 40 (.mv (.t 0)),oq 41 (.mv (.t 4)),oq 42 (.mv (.t 6)),oe 43 (.mks 5 1 (.int .u8 0) (.v (.int .i64 504)) (.v (.int .i64 504))),oq 44 (.b2s (.t 43)),oe 45 (.call 53 [(.t 40),(.t 41),(.t 42),(.t 44)]),oq 2 (.mv (.t 45)),oq 3 (.mv (.v (.int .i64 0)))]) .ret))))))
@[go_sem] def c21_24_wp:=wp_of c21_24.eq_1
def c21:AFn:=⟨46,[.t 2,.t 3],c21_24⟩
theorem c21_ok:compF Tryz.prog Tryz.f21=some c21:=by kernel_rfl
theorem a21 {args:List AV} {σ:ASt} {R:AV->ASt->Prop} (hl:args.length<=46) (h:c21_24.wp Tryz.prog (RetQ [.t 2,.t 3] R) (init args) σ):ACalls Tryz.prog 21 args σ R:=acalls_of Tryz.func21 c21_ok hl h
/-! 22: (*tabular/pool.Frame).Unpin -/
def c22_5:ACode := .seq (.ops [ oq 2 (.mv (.t 0)),oq 3 (.nc (.t 2)),oq 4 (.fa 3 (.t 3)),oq 5 (.ld none (.t 4)),oq 6 (.bin .gtr (.t 5) (.v (.int .i64 0)))]) (.cond (.t 6) (.seq (.ops [ oq 7 (.mv (.t 0)),oq 8 (.nc (.t 7)),oq 9 (.fa 3 (.t 8)),oq 10 (.ld none (.t 9)),oq 11 (.bin .sub (.t 10) (.v (.int .i64 1))),oq 12 (.nc (.t 7)),oq 13 (.fa 3 (.t 12)),oz (.store 1 (.t 13) (.t 11))]) (.ops [ oq 14 (.mv (.t 0)),oq 15 (.nc (.t 14)),oq 16 (.fa 0 (.t 15)),oq 17 (.ld none (.t 16)),oq 18 (.nc (.t 17)),oq 19 (.fa 4 (.t 18)),oq 20 (.ld none (.t 19)),oq 21 (.bin .sub (.t 20) (.v (.int .i64 1))),oq 22 (.nc (.t 17)),oq 23 (.fa 4 (.t 22)),oz (.store 1 (.t 23) (.t 21))])) .skip)
@[go_sem] def c22_5_wp:=wp_of c22_5.eq_1
def c22:AFn:=⟨24,[],c22_5⟩
theorem c22_ok:compF Tryz.prog Tryz.f22=some c22:=by kernel_rfl
theorem a22 {args:List AV} {σ:ASt} {R:AV->ASt->Prop} (hl:args.length<=24) (h:c22_5.wp Tryz.prog (RetQ [] R) (init args) σ):ACalls Tryz.prog 22 args σ R:=acalls_of Tryz.func22 c22_ok hl h
theorem d22 {args:List AV} {σ:ASt} {R:AV->ASt->Prop} (hl:args.length<=24) (h:c22_5.wp Tryz.prog (fun e _ σ'=>(∀ i,e ≠ .exit i)/\R (.tuple []) σ') (init args) σ):ADefer Tryz.prog 22 args σ R:=adefer_of (R:=R) Tryz.func22 c22_ok rfl rfl hl h
/-! 24: (*tabular/pool.Frame).Edit -/
def c24_7:ACode := .seq (.ops [ oq 2 (.mv (.v (.sl .full [])))]) (.seq (.ops [ oq 3 (.mv (.t 0)),oq 4 (.nc (.t 3)),oq 5 (.fa 0 (.t 4)),oq 6 (.ld none (.t 5)),oq 7 (.mv (.t 0)),oe 8 (.call 56 [(.t 6),(.t 7)])]) (.seq (.ops [ oq 9 (.mv (.t 0)),oq 10 (.nc (.t 9)),oq 11 (.fa 5 (.t 10)),oz (.store 1 (.t 11) (.v (.bool true)))]) (.seq (.ops [ oq 12 (.mv (.t 0)),oq 13 (.nc (.t 12)),oq 14 (.fa 2 (.t 13)),oq 15 (.ld none (.t 14)),oq 2 (.mv (.t 15))]) .ret)))
@[go_sem] def c24_7_wp:=wp_of c24_7.eq_1
def c24:AFn:=⟨16,[.t 2],c24_7⟩
theorem c24_ok:compF Tryz.prog Tryz.f24=some c24:=by kernel_rfl
theorem a24 {args:List AV} {σ:ASt} {R:AV->ASt->Prop} (hl:args.length<=16) (h:c24_7.wp Tryz.prog (RetQ [.t 2] R) (init args) σ):ACalls Tryz.prog 24 args σ R:=acalls_of Tryz.func24 c24_ok hl h
/-! 27: (*tabular/pool.Frame).Page -/
def c27_3:ACode := .seq (.ops [ oq 2 (.mv (.v (.int .i64 0)))]) (.seq (.ops [ oq 3 (.mv (.t 0)),oq 4 (.nc (.t 3)),oq 5 (.fa 1 (.t 4)),oq 6 (.ld none (.t 5)),oq 2 (.mv (.t 6))]) .ret)
@[go_sem] def c27_3_wp:=wp_of c27_3.eq_1
def c27:AFn:=⟨7,[.t 2],c27_3⟩
theorem c27_ok:compF Tryz.prog Tryz.f27=some c27:=by kernel_rfl
theorem a27 {args:List AV} {σ:ASt} {R:AV->ASt->Prop} (hl:args.length<=7) (h:c27_3.wp Tryz.prog (RetQ [.t 2] R) (init args) σ):ACalls Tryz.prog 27 args σ R:=acalls_of Tryz.func27 c27_ok hl h
/-! 56: (*tabular/pool.Pool).keep -/
def c56_9:ACode := .seq (.seq (.ops [ oq 6 (.mv (.t 0)),oq 7 (.nc (.t 6)),oq 8 (.fa 5 (.t 7)),oq 9 (.ld none (.t 8)),oq 10 (.un .not (.t 9)),oq 11 (.mv (.t 10)),⟨some 12,some (11,false),.q (.mv (.t 0)),[]⟩,⟨some 13,some (11,false),.q (.nc (.t 12)),[]⟩,⟨some 14,some (11,false),.q (.fa 7 (.t 13)),[]⟩,⟨some 15,some (11,false),.q (.ld none (.t 14)),[]⟩,⟨some 16,some (11,false),.q (.mv (.t 1)),[]⟩,⟨some 17,some (11,false),.q (.nc (.t 16)),[]⟩,⟨some 18,some (11,false),.q (.fa 1 (.t 17)),[]⟩,⟨some 19,some (11,false),.q (.ld none (.t 18)),[]⟩,⟨some 20,some (11,false),.e (.call 85 [(.t 15),(.t 19)]),[]⟩,oq 21 (.pick (.t 11) (.v (.bool true)) (.t 20))]) (.cond (.t 21) .ret .skip)) (.seq (.ops [ oq 23 (.mv (.t 0)),oq 24 (.nc (.t 23)),oq 25 (.fa 6 (.t 24)),oq 26 (.ld none (.t 25)),oq 27 (.mv (.t 1)),oq 28 (.nc (.t 27)),oq 29 (.fa 1 (.t 28)),oq 30 (.ld none (.t 29)),oe 31 (.dead),oq 22 (.mv (.t 31)),oq 32 (.ext 0 (.t 22)),oq 33 (.ext 1 (.t 22)),oq 4 (.mv (.t 32)),oq 5 (.mv (.t 33))]) (.seq (.ops [ oq 34 (.mv (.t 5)),oq 35 (.un .not (.t 34))]) (.cond (.t 35) (.ops [ oq 36 (.mv (.t 0)),oq 37 (.nc (.t 36)),oq 38 (.fa 6 (.t 37)),oq 39 (.ld none (.t 38)),oq 40 (.mv (.t 1)),oq 41 (.nc (.t 40)),oq 42 (.fa 1 (.t 41)),oq 43 (.ld none (.t 42)),oq 44 (.mv (.t 1)),oq 45 (.nc (.t 44)),oq 46 (.fa 2 (.t 45)),oq 47 (.ld none (.t 46)),oq 48 (.b2s (.t 47)),oz (.dead)]) .skip)))
@[go_sem] def c56_9_wp:=wp_of c56_9.eq_1
def c56:AFn:=⟨49,[],c56_9⟩
theorem c56_ok:compF Tryz.prog Tryz.f56=some c56:=by kernel_rfl
theorem a56 {args:List AV} {σ:ASt} {R:AV->ASt->Prop} (hl:args.length<=49) (h:c56_9.wp Tryz.prog (RetQ [] R) (init args) σ):ACalls Tryz.prog 56 args σ R:=acalls_of Tryz.func56 c56_ok hl h
/-! 78: (*tabular/pool.Frame).Bytes -/
def c78_3:ACode := .seq (.ops [ oq 2 (.mv (.v (.sl .full [])))]) (.seq (.ops [ oq 3 (.mv (.t 0)),oq 4 (.nc (.t 3)),oq 5 (.fa 2 (.t 4)),oq 6 (.ld none (.t 5)),oq 2 (.mv (.t 6))]) .ret)
@[go_sem] def c78_3_wp:=wp_of c78_3.eq_1
def c78:AFn:=⟨7,[.t 2],c78_3⟩
theorem c78_ok:compF Tryz.prog Tryz.f78=some c78:=by kernel_rfl
theorem a78 {args:List AV} {σ:ASt} {R:AV->ASt->Prop} (hl:args.length<=7) (h:c78_3.wp Tryz.prog (RetQ [.t 2] R) (init args) σ):ACalls Tryz.prog 78 args σ R:=acalls_of Tryz.func78 c78_ok hl h
/-! 114: (*tabular/pool.Pool).Give -/
def c114_35:ACode := .seq (.ops [ oq 4 (.mv (.v (.int .i64 0)))]) (.seq (.seq (.ops [ oq 9 (.mv (.t 0)),oq 10 (.nc (.t 9)),oq 11 (.fa 2 (.t 10)),oq 12 (.ld none (.t 11)),oq 13 (.mv (.t 1)),oq 14 (.mget (.t 12) (.t 13)),oq 8 (.mv (.t 14)),oq 15 (.ext 0 (.t 8)),oq 16 (.ext 1 (.t 8)),oq 5 (.mv (.t 15)),oq 6 (.mv (.t 16))]) (.seq (.ops [ oq 17 (.mv (.t 6)),oq 18 (.mv (.t 17)),⟨some 19,some (18,true),.q (.mv (.t 0)),[]⟩,⟨some 20,some (18,true),.q (.nc (.t 19)),[]⟩,⟨some 21,some (18,true),.q (.fa 1 (.t 20)),[]⟩,⟨some 22,some (18,true),.q (.ld none (.t 21)),[]⟩,⟨some 23,some (18,true),.q (.mv (.t 5)),[]⟩,⟨some 24,some (18,true),.q (.ia 1 (.t 22) (.t 23)),[]⟩,⟨some 25,some (18,true),.q (.ld none (.t 24)),[]⟩,⟨some 26,some (18,true),.q (.nc (.t 25)),[]⟩,⟨some 27,some (18,true),.q (.fa 3 (.t 26)),[]⟩,⟨some 28,some (18,true),.q (.ld none (.t 27)),[]⟩,⟨some 29,some (18,true),.q (.bin .gtr (.t 28) (.v (.int .i64 0))),[]⟩,oq 30 (.pick (.t 18) (.t 29) (.v (.bool false)))]) (.cond (.t 30) (.seq (.ops [ oq 4 (.mv (.v (.int .i64 14)))]) .ret) .skip))) (.seq (.seq (.ops [ oq 31 (.mv (.t 0)),oq 32 (.nc (.t 31)),oq 33 (.fa 0 (.t 32)),oq 34 (.ld none (.t 33)),oq 35 (.mv (.t 1)),oe 36 (.call 100 [(.t 34),(.t 35)]),oq 37 (.un .not (.t 36)),oq 38 (.mv (.t 37)),⟨some 39,some (38,false),.q (.mv (.t 0)),[]⟩,⟨some 40,some (38,false),.q (.nc (.t 39)),[]⟩,⟨some 41,some (38,false),.q (.fa 8 (.t 40)),[]⟩,⟨some 42,some (38,false),.q (.ld none (.t 41)),[]⟩,⟨some 43,some (38,false),.q (.mv (.t 1)),[]⟩,⟨some 44,some (38,false),.e (.call 85 [(.t 42),(.t 43)]),[]⟩,oq 45 (.pick (.t 38) (.v (.bool true)) (.t 44))]) (.cond (.t 45) (.seq (.ops [ oq 4 (.mv (.v (.int .i64 4)))]) .ret) .skip)) (.seq (.seq (.ops [ oq 46 (.mv (.t 0)),oq 47 (.nc (.t 46)),oq 48 (.fa 5 (.t 47)),oq 49 (.ld none (.t 48))]) (.cond (.t 49) (.seq (.ops [ oq 50 (.mv (.t 0)),oq 51 (.mv (.t 0)),oq 52 (.nc (.t 51)),oq 53 (.fa 8 (.t 52)),oq 54 (.ld none (.t 53)),oq 55 (.mv (.t 1)),oq 56 (.bslv 1 [(.t 55)]),oe 57 (.app 3 1 8 [(.int .i64 0)] (.t 54) (.t 56)),oq 58 (.nc (.t 50)),oq 59 (.fa 8 (.t 58)),oz (.store 1 (.t 59) (.t 57))]) (.seq (.ops [ oq 4 (.mv (.v (.int .i64 0)))]) .ret)) .skip)) (.seq (.seq (.ops [ oq 60 (.mv (.t 0)),oq 61 (.nc (.t 60)),oq 62 (.fa 0 (.t 61)),oq 63 (.ld none (.t 62)),oq 64 (.mv (.t 1)),oe 65 (.call 123 [(.t 63),(.t 64)]),oq 7 (.mv (.t 65))]) (.seq (.ops [ oq 66 (.mv (.t 7)),oq 67 (.bin .neq (.t 66) (.v (.int .i64 0)))]) (.cond (.t 67) (.seq (.ops [ oq 68 (.mv (.t 7)),oq 4 (.mv (.t 68))]) .ret) .skip))) (.seq (.ops [ oq 69 (.mv (.t 0)),oq 70 (.mv (.t 1)),oe 71 (.call 84 [(.t 69),(.t 70)])]) (.seq (.ops [ oq 4 (.mv (.v (.int .i64 0)))]) .ret))))))
@[go_sem] def c114_35_wp:=wp_of c114_35.eq_1
def c114:AFn:=⟨72,[.t 4],c114_35⟩
theorem c114_ok:compF Tryz.prog Tryz.f114=some c114:=by kernel_rfl
theorem a114 {args:List AV} {σ:ASt} {R:AV->ASt->Prop} (hl:args.length<=72) (h:c114_35.wp Tryz.prog (RetQ [.t 4] R) (init args) σ):ACalls Tryz.prog 114 args σ R:=acalls_of Tryz.func114 c114_ok hl h
end Go.A
namespace Go.A
open Go.Proofs
section
variable {base σ:ASt} {p d ra ma n hand page fa xa c:Nat} {own:Nat->Nat} {pins hnd:Int} {fs:List (Option Frm)} {am:List (Int×Int)} {pin:Option Nat} {m:Int} {g pg:Pgs} {i q:Nat} {f:Frm} {s t:List UInt8} {dirty:Bool}
theorem PinAt.unpin (h:PinAt base σ p m n pg page fa xa c dirty) {bs:List UInt8} (hx:base xa=some (.obj (bytesAV bs))) (hb:bs.length=504) (hd:dirty=true\/pg page=some bs) (hk:xa≠0) :
  ∃ d ra ma hand k u,σ fa=some (.obj [.ptr p 0,.int .i64 page,.msl xa 0 504 c,.int .i64 1,.bool u,.bool dirty])/\σ p=some (.obj [.ptr d 0,.msl ra 0 k k,.map (some ma),.int .i64 hand,.int .i64 1,.bool false,.map none,.sl .full [],.sl .full []])/\p≠fa ∧
   PoolAt (base.set xa none) ((σ.set fa (some (.obj [.ptr p 0,.int .i64 page,.msl xa 0 504 c,.int .i64 0,.bool u,.bool dirty]))).set p (some (.obj [.ptr d 0,.msl ra 0 k k,.map (some ma),.int .i64 hand,.int .i64 0,.bool false,.map none,.sl .full [],.sl .full []]))) p m n (pset pg page (some bs)):=by
 obtain ⟨d,ra,ma,own,hand,fs,am,g,i,f,h1,hw,hh,hl,hi,rfl,rfl,rfl,rfl,rfl⟩:=h.open
 have hfa:=h1.hf hi
 have e1:pinV (some i) i=1:=if_pos rfl
 rw [e1] at hfa
 have hil:i<fs.length:=(List.getElem?_eq_some_iff.1 hi).1
 have h2:=h1.unpin hi hk hx
 have h3:=h2.setP hand 0
 rw [List.length_set] at h3
 have hd':f.dirty=true\/bs=f.bs:=hd.imp id fun h=>by
  rw [hw.pg1 i f hi] at h
  exact (Option.some.inj h).symm
 have hw2:=hw.bytes hi hb hd'
 refine ⟨d,ra,ma,hand,fs.length,f.used,hfa,h1.hp,fun e=>?_,PoolAt.shut h3 hw2 (by rw [List.length_set];exact hh) (by rw [List.length_set];exact hl)⟩
 have:=h1.hp
 rw [e,hfa] at this
 simp at this
theorem plunpin_ok (h:PinAt base σ p m n pg page fa xa c dirty) {bs:List UInt8} (hx:base xa=some (.obj (bytesAV bs))) (hb:bs.length=504) (hd:dirty=true\/pg page=some bs) (hk:xa≠0) :
  ACalls Tryz.prog 22 [.ptr fa 0] σ fun v σ'=>v = .tuple []/\PoolAt (base.set xa none) σ' p m n (pset pg page (some bs)):=by
 obtain ⟨d,ra,ma,hand,k,u,hfa,hp,hne,hfin⟩:=h.unpin hx hb hd hk
 refine a22 (by simp) ?_
 simp (disch:=first|assumption|omega|(simp only [List.length_append,List.length_cons,List.length_nil];omega)) only [go_sem,hfa,hp]
 exact retC_by (.refl _) (.refl _) ⟨rfl,hfin⟩
theorem plunpin_d (h:PinAt base σ p m n pg page fa xa c dirty) {bs:List UInt8} (hx:base xa=some (.obj (bytesAV bs))) (hb:bs.length=504) (hd:dirty=true\/pg page=some bs) (hk:xa≠0) :
  ADefer Tryz.prog 22 [.ptr fa 0] σ fun v σ'=>v = .tuple []/\PoolAt (base.set xa none) σ' p m n (pset pg page (some bs)):=by
 obtain ⟨d,ra,ma,hand,k,u,hfa,hp,hne,hfin⟩:=h.unpin hx hb hd hk
 refine d22 (by simp) ?_
 simp (disch:=first|assumption|omega|(simp only [List.length_append,List.length_cons,List.length_nil];omega)) only [go_sem,hfa,hp]
 first|exact hfin|exact ⟨fun i h=>(by cases h),rfl,hfin⟩
theorem PinAt.frame_at (h:PinAt base σ p m n pg page fa xa c dirty):∃ d ra ma hand k u,σ fa=some (.obj [.ptr p 0,.int .i64 page,.msl xa 0 504 c,.int .i64 1,.bool u,.bool dirty])/\σ p=some (.obj [.ptr d 0,.msl ra 0 k k,.map (some ma),.int .i64 hand,.int .i64 1,.bool false,.map none,.sl .full [],.sl .full []]) ∧
  PinAt base (σ.set fa (some (.obj [.ptr p 0,.int .i64 page,.msl xa 0 504 c,.int .i64 1,.bool u,.bool true]))) p m n pg page fa xa c true:=by
 obtain ⟨d,ra,ma,own,hand,fs,am,g,i,f,h1,hw,hh,hl,hi,rfl,rfl,rfl,rfl,rfl⟩:=h.open
 have hfa:=h1.hf hi
 have e1:pinV (some i) i=1:=if_pos rfl
 rw [e1] at hfa
 have hil:i<fs.length:=(List.getElem?_eq_some_iff.1 hi).1
 have h2:=h1.setF hi f.used true
 rw [e1] at h2
 have hw2:=hw.flag hi f.used true (.inl rfl)
 exact ⟨d,ra,ma,hand,fs.length,f.used,hfa,h1.hp,PinAt.shut h2 hw2 (by rw [List.length_set];exact hh) (by rw [List.length_set];exact hl) (List.getElem?_set_self hil)⟩
theorem plbytes_ok (h:PinAt base σ p m n pg page fa xa c dirty):ACalls Tryz.prog 78 [.ptr fa 0] σ fun v σ'=>v = .msl xa 0 504 c/\σ'=σ:=by
 obtain ⟨d,ra,ma,hand,k,u,hfa,hp,_⟩:=h.frame_at
 refine a78 (by simp) ?_
 simp (disch:=first|assumption|omega|(simp only [List.length_append,List.length_cons,List.length_nil];omega)) only [go_sem,hfa]
 exact retC_by (.refl _) (.refl _) ⟨rfl,rfl⟩
theorem plpage_ok (h:PinAt base σ p m n pg page fa xa c dirty):ACalls Tryz.prog 27 [.ptr fa 0] σ fun v σ'=>v = .int .i64 page/\σ'=σ:=by
 obtain ⟨d,ra,ma,hand,k,u,hfa,hp,_⟩:=h.frame_at
 refine a27 (by simp) ?_
 simp (disch:=first|assumption|omega|(simp only [List.length_append,List.length_cons,List.length_nil];omega)) only [go_sem,hfa]
 exact retC_by (.refl _) (.refl _) ⟨rfl,rfl⟩
theorem plkeep_ok {d ra ma k:Nat} {hand pins:Int} {x:AV} (hp:σ p=some (.obj [.ptr d 0,.msl ra 0 k k,.map (some ma),.int .i64 hand,.int .i64 pins,.bool false,.map none,.sl .full [],.sl .full []])) :
  ACalls Tryz.prog 56 [.ptr p 0,.ptr fa 0] σ fun v σ'=>v = .tuple []/\σ'=σ:=by
 refine a56 (by simp) ?_
 simp (disch:=first|assumption|omega|(simp only [List.length_append,List.length_cons,List.length_nil];omega)) only [go_sem,hp]
 exact retC_by (.refl _) (.refl _) ⟨rfl,rfl⟩
theorem pledit_ok (h:PinAt base σ p m n pg page fa xa c dirty):ACalls Tryz.prog 24 [.ptr fa 0] σ fun v σ'=>v = .msl xa 0 504 c/\PinAt base σ' p m n pg page fa xa c true:=by
 obtain ⟨d,ra,ma,hand,k,u,hfa,hp,h2⟩:=h.frame_at
 have hk:=plkeep_ok (fa:=fa) (x := .nilp) hp
 refine a24 (by simp) ?_
 simp (disch:=first|assumption|omega|(simp only [List.length_append,List.length_cons,List.length_nil];omega)) only [go_sem,hfa]
 refine hk.mono ?_
 rintro v σ1 ⟨rfl,rfl⟩
 simp (disch:=first|assumption|omega|(simp only [List.length_append,List.length_cons,List.length_nil];omega)) only [go_sem,hfa]
 exact retC_by (.refl _) (.refl _) ⟨rfl,h2⟩
set_option maxHeartbeats 1000000 in
theorem pltake_ok (h:PoolAt base σ p m n pg) (hroom:(n:Int)<m) :
  ACalls Tryz.prog 21 [.ptr p 0] σ fun v σ'=>∃ (q fa xa c:Nat) (dirty:Bool),v = .tuple [.ptr fa 0,.int .i64 0]/\pg q=none/\1<=q/\q<60000/\base xa=none/\xa≠0/\504<=c ∧
   PinAt (base.set xa (some (.obj (bytesAV (List.replicate 504 0))))) σ' p m (n+1) (pset pg q (some (List.replicate 504 0))) q fa xa c dirty:=by
 obtain ⟨d,ra,ma,own,hand,fs,am,g,h1,hw,hh,hk⟩:=h.open
 have hroom':=plroom_ok h1 hw hh hk
 refine a21 (by simp) ?_
 simp (disch:=first|assumption|omega|(simp only [List.length_append,List.length_cons,List.length_nil];omega)) only [go_sem]
 refine hroom'.mono ?_
 rintro v σ2 ⟨i,hand',fs',am',g',rfl,hi,hl,hh',h2,hw2,hsm⟩
 have hp2:=h2.hp
 have htk:=pstake_ok h2 hroom
 simp (disch:=first|assumption|omega|(simp only [List.length_append,List.length_cons,List.length_nil];omega)) only [go_sem,hp2]
 refine htk.mono ?_
 rintro v σ3 ⟨q,rfl,hg,hq1,hq2,h3⟩
 have hp3:=h3.hp
 have hnr2:∀ (j:Nat) (k:Frm),fs'[j]? = some (some k)->k.page≠q:=fun j k hj he=>by
  obtain ⟨s,h4,_⟩:=hw2.has j k hj
  rw [he,hg] at h4;cases h4
 have hpq:pg q=none:=by rw [hw2.pg2 q hnr2];exact hg
 have hsl:(List.replicate 504 (0:UInt8)).length=504:=List.length_replicate
 have hw3:=hw2.took hg (some (List.replicate 504 0))
 have e504:((504:Int)).toNat=504:=rfl
 simp (disch:=first|assumption|omega|(simp only [List.length_append,List.length_cons,List.length_nil];omega)) only [go_sem,hp3]
 refine mks_own (by decide) (by decide) (by decide) (by decide) fun z hz=>?_
 have hst:Drop (σ3.set z (some (.obj (List.replicate 504 (.int .u8 0))))) σ3:=Drop.set hz
 have hly:=(pllay_ok (q:=q) h3 hi hsl (by omega)).off hst
 rw [e504,zero_bytes] at *
 have hle:504<=(bytesAV (List.replicate 504 0)).length:=by rw [kbytes_len,List.length_replicate];exact Nat.le_refl _
 have htk2:(bytesAV (List.replicate 504 0)).take 504=bytesAV (List.replicate 504 0):=List.take_of_length_le (by rw [kbytes_len,List.length_replicate];exact Nat.le_refl _)
 generalize List.replicate 504 (0:UInt8)=zs at *
 have hle':504<=zs.length:=by omega
 simp (disch:=first|assumption|omega|(simp only [List.length_append,List.length_cons,List.length_nil];omega)) only [go_sem,hle',htk2,List.drop_zero,Nat.zero_add]
 refine hly.mono ?_
 rintro v σ4 ⟨f,own',rfl,hfq,hfb,hfd,hfc,hzx,h4⟩
 have hzb:base f.xa=none:=by
  cases hc:base f.xa with
  | none=>rfl
  | some r=>rw [h3.hb hc] at hzx;cases hzx
 have hck:f.xa≠0:=fun e=>by rw [e,h3.hb h3.ckT] at hzx;cases hzx
 have hil:i<fs'.length:=(List.getElem?_eq_some_iff.1 hi).1
 have hw4:=hw3.lay (f:=f) hi (by rw [hfq,hfb];exact pset_same _ _ _) (by rw [hfq,hfb];exact pset_same _ _ _) (by rw [hfq];exact hnr2) ⟨by rw [hfb];exact hsl,hfc⟩
 rw [hfq] at hw4
 have hfin:=PinAt.shut h4 hw4 (by rw [List.length_set];exact hh') (by rw [List.length_set];omega) (List.getElem?_set_self hil)
 rw [hfq,hfb] at hfin
 simp (disch:=first|assumption|omega|(simp only [List.length_append,List.length_cons,List.length_nil];omega)) only [go_sem]
 exact retC_by (.refl _) (.refl _) ⟨q,f.fa,f.xa,f.c,f.dirty,rfl,hpq,hq1,hq2,hzb,hck,hfc,hfin⟩
set_option maxHeartbeats 1000000 in
theorem plgive_ok (h:PoolAt base σ p m n pg) (hq:pg q=some s) :
  ACalls Tryz.prog 114 [.ptr p 0,.int .i64 q] σ fun v σ'=>v = .int .i64 0/\PoolAt base σ' p m n (pset pg q none):=by
 obtain ⟨d,ra,ma,own,hand,fs,am,g,h1,hw,hh,hk⟩:=h.open
 obtain ⟨t,hg⟩:=hw.res hq
 have hhas:=pshas_ok h1 hg
 have hgv:=psgive_ok h1 hg
 have hcn:=contains_nil (q:Int)
 have hp:=h1.hp
 have hm:=h1.hm
 have hr:=h1.hr
 cases ham:findM am (q:Int) with
 | some v=>
   obtain ⟨i,f,rfl,hi,hfq⟩:=hw.am2 q v ham
   have hfa:=h1.hf hi
   rw [pinV_none] at hfa
   have hil:i<fs.length:=(List.getElem?_eq_some_iff.1 hi).1
   have hget:=row_get (fs:=fs) hi
   have hv:frV (some f) = .ptr f.fa 0:=rfl
   rw [hv] at hget
   generalize fs.map frV=MR at *
   have i1:(i:Int)<(fs.length:Int):=by omega
   refine a114 (by simp) ?_
   simp (disch:=first|assumption|omega|(simp only [List.length_append,List.length_cons,List.length_nil];omega)) only [go_sem,hp,hm,ham,Option.getD_some,Option.isSome_some,hr,hget,Int.toNat_natCast,Nat.zero_add,hfa]
   refine hhas.mono ?_
   rintro v σ1 ⟨rfl,rfl⟩
   simp (disch:=first|assumption|omega|(simp only [List.length_append,List.length_cons,List.length_nil];omega)) only [go_sem,hp]
   refine hcn.use ?_
   simp (disch:=first|assumption|omega|(simp only [List.length_append,List.length_cons,List.length_nil];omega)) only [go_sem,hp]
   refine hgv.mono ?_
   rintro v σ2 ⟨rfl,h2⟩
   have hfg:=plforget_ok h2 (i:=i) (q:=q) (by simp) hil ham
   have hw2:=hw.gaveF hi
   rw [hfq] at hw2
   simp (disch:=first|assumption|omega|(simp only [List.length_append,List.length_cons,List.length_nil];omega)) only [go_sem]
   refine hfg.mono ?_
   rintro v σ3 ⟨rfl,h3⟩
   simp (disch:=first|assumption|omega|(simp only [List.length_append,List.length_cons,List.length_nil];omega)) only [go_sem]
   exact retC_by (.refl _) (.refl _) ⟨rfl,PoolAt.shut h3 hw2 (by rw [List.length_set];exact hh) (by rw [List.length_set];exact hk)⟩
 | none=>
   have hnr:∀ (j:Nat) (k:Frm),fs[j]? = some (some k)->k.page≠q:=fun j k hj he=>by
    have:=hw.am1 j k hj
    rw [he,ham] at this;cases this
   refine a114 (by simp) ?_
   simp (disch:=first|assumption|omega|(simp only [List.length_append,List.length_cons,List.length_nil];omega)) only [go_sem,hp,hm,ham,Option.getD_none,Option.isSome_none]
   refine hhas.mono ?_
   rintro v σ1 ⟨rfl,rfl⟩
   simp (disch:=first|assumption|omega|(simp only [List.length_append,List.length_cons,List.length_nil];omega)) only [go_sem,hp]
   refine hcn.use ?_
   simp (disch:=first|assumption|omega|(simp only [List.length_append,List.length_cons,List.length_nil];omega)) only [go_sem,hp]
   refine hgv.mono ?_
   rintro v σ2 ⟨rfl,h2⟩
   have hfg:=plforget_no h2 (q:=q) ham
   have hw2:=hw.gave hnr none
   simp (disch:=first|assumption|omega|(simp only [List.length_append,List.length_cons,List.length_nil];omega)) only [go_sem]
   refine hfg.mono ?_
   rintro v σ3 ⟨rfl,rfl⟩
   simp (disch:=first|assumption|omega|(simp only [List.length_append,List.length_cons,List.length_nil];omega)) only [go_sem]
   exact retC_by (.refl _) (.refl _) ⟨rfl,PoolAt.shut h2 hw2 hh hk⟩
end
end Go.A
namespace Go.A
open Go.Proofs
/-! 5: tabular/pool.New -/
def c5_7:ACode := .seq (.ops [ oq 6 (.mv (.v .nilp))]) (.seq (.ops [ oq 8 (.mv (.t 0)),oq 9 (.mv (.t 1)),oq 10 (.mnx true (.t 9) (.v (.int .i64 1))),oe 11 (.mks 64 8 .nilp (.t 10) (.t 10)),oe 12 (.mkm),oq 13 (.build [.nilp,(.sl .full []),(.map none),(.int .i64 0),(.int .i64 0),(.bool false),(.map none),(.sl .full []),(.sl .full [])] [(0,1,(.t 8)),(1,1,(.t 11)),(2,1,(.t 12))]),oe 14 (.box (.t 13)),oq 7 (.mv (.t 14))]) (.seq (.ops [ oq 15 (.mv (.t 7)),oq 16 (.mv (.t 2)),oe 17 (.call 18 [(.t 15),(.t 16)])]) (.seq (.ops [ oq 18 (.mv (.t 7)),oq 6 (.mv (.t 18))]) .ret)))
@[go_sem] def c5_7_wp:=wp_of c5_7.eq_1
def c5:AFn:=⟨19,[.t 6],c5_7⟩
theorem c5_ok:compF Tryz.prog Tryz.f5=some c5:=by kernel_rfl
theorem a5 {args:List AV} {σ:ASt} {R:AV->ASt->Prop} (hl:args.length<=19) (h:c5_7.wp Tryz.prog (RetQ [.t 6] R) (init args) σ):ACalls Tryz.prog 5 args σ R:=acalls_of Tryz.func5 c5_ok hl h
/-! 18: (*tabular/pool.Pool).Hand -/
def c18_2:ACode := .seq (.ops [ oq 5 (.mv (.t 0)),oq 6 (.nc (.t 5)),oq 7 (.fa 1 (.t 6)),oq 8 (.ld none (.t 7)),oq 9 (.len (.t 8)),oq 4 (.mv (.t 9))]) (.ops [ oq 10 (.mv (.t 0)),oq 11 (.mv (.t 1)),oq 12 (.mv (.t 4)),oq 13 (.bin .rem (.t 11) (.t 12)),oq 14 (.mv (.t 4)),oq 15 (.bin .add (.t 13) (.t 14)),oq 16 (.mv (.t 4)),oq 17 (.bin .rem (.t 15) (.t 16)),oq 18 (.nc (.t 10)),oq 19 (.fa 3 (.t 18)),oz (.store 1 (.t 19) (.t 17))])
@[go_sem] def c18_2_wp:=wp_of c18_2.eq_1
def c18:AFn:=⟨20,[],c18_2⟩
theorem c18_ok:compF Tryz.prog Tryz.f18=some c18:=by kernel_rfl
theorem a18 {args:List AV} {σ:ASt} {R:AV->ASt->Prop} (hl:args.length<=20) (h:c18_2.wp Tryz.prog (RetQ [] R) (init args) σ):ACalls Tryz.prog 18 args σ R:=acalls_of Tryz.func18 c18_ok hl h
end Go.A
end
