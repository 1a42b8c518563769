/- Part 7 of what TabularStores leans on: Ne CodeNf Nf CodeNg Ng CodeNh Nh CodeNi Ni CodeNj Nj CodeNo No CodeNp Np. -/
import Derived.Test.YtngcggpbajgigaaGreatDoorProg
import Derived.KernelRfl
import Derived.Test.YtngcggpbajgigaaGreatDoorZTabularStoresf
set_option linter.defProp false
set_option linter.unusedSimpArgs false
set_option linter.unusedVariables false
set_option maxRecDepth 100000
namespace Go.A
open Go.Proofs
abbrev Pgs:=Nat->Option (List UInt8)
structure PW (fs:List (Option Frm)) (am:List (Int×Int)) (g pg:Pgs):Prop where
 len:∀ (i:Nat) (f:Frm),fs[i]? = some (some f)->f.bs.length=504/\504<=f.c
 has:∀ (i:Nat) (f:Frm),fs[i]? = some (some f)->∃ s,g f.page=some s/\(f.dirty=false->s=f.bs)
 am1:∀ (i:Nat) (f:Frm),fs[i]? = some (some f)->findM am (f.page:Int)=some (i:Int)
 am2:∀ (q:Nat) (v:Int),findM am (q:Int)=some v->∃ (i:Nat) (f:Frm),v=i/\fs[i]? = some (some f)/\f.page=q
 nd:(am.map Prod.fst).Nodup
 pg1:∀ (i:Nat) (f:Frm),fs[i]? = some (some f)->pg f.page=some f.bs
 pg2:∀ (q:Nat),(∀ (i:Nat) (f:Frm),fs[i]? = some (some f)->f.page≠q)->pg q=g q
section
variable {fs:List (Option Frm)} {am:List (Int×Int)} {g pg:Pgs} {i:Nat} {f:Frm}
theorem PW.uniq (h:PW fs am g pg) {j:Nat} {f':Frm} (hi:fs[i]? = some (some f)) (hj:fs[j]? = some (some f')) (hp:f.page=f'.page):i=j:=by
 have h1:=h.am1 i f hi
 have h2:=h.am1 j f' hj
 rw [hp,h2] at h1
 have:=Option.some.inj h1
 omega
theorem PW.flag (h:PW fs am g pg) (hi:fs[i]? = some (some f)) (u y:Bool) (hy:y=true\/y=f.dirty\/g f.page=some f.bs):PW (fs.set i (some { f with used:=u,dirty:=y })) am g pg:=by
 have hl:i<fs.length:=(List.getElem?_eq_some_iff.1 hi).1
 refine ⟨fun j k hj=>?_,fun j k hj=>?_,fun j k hj=>?_,fun q v hq=>?_,h.nd,fun j k hj=>?_,fun q hq=>?_⟩
 ·rcases set_some (f:=f) hj with ⟨rfl,h2⟩|⟨_,h2⟩
  ·injection h2 with h2;subst h2;exact h.len j f hi
  ·exact h.len j k h2
 ·rcases set_some (f:=f) hj with ⟨rfl,h2⟩|⟨_,h2⟩
  ·injection h2 with h2;subst h2
   obtain ⟨s,h3,h4⟩:=h.has j f hi
   refine ⟨s,h3,fun hd=>?_⟩
   have hd:y=false:=hd
   rcases hy with hy|hy|hy
   ·rw [hy] at hd;cases hd
   ·exact h4 (hy▸hd)
   ·rw [h3] at hy;exact Option.some.inj hy
  ·exact h.has j k h2
 ·rcases set_some (f:=f) hj with ⟨rfl,h2⟩|⟨_,h2⟩
  ·injection h2 with h2;subst h2;exact h.am1 j f hi
  ·exact h.am1 j k h2
 ·obtain ⟨j,k,h1,h2,h3⟩:=h.am2 q v hq
  by_cases hj:j=i
  ·subst hj
   rw [hi] at h2
   injection h2 with h2;injection h2 with h2;subst h2
   exact ⟨j,_,h1,List.getElem?_set_self hl,h3⟩
  ·exact ⟨j,k,h1,by rw [List.getElem?_set_ne (Ne.symm hj)];exact h2,h3⟩
 ·rcases set_some (f:=f) hj with ⟨rfl,h2⟩|⟨_,h2⟩
  ·injection h2 with h2;subst h2;exact h.pg1 j f hi
  ·exact h.pg1 j k h2
 ·refine h.pg2 q fun j k hj=>?_
  by_cases hji:j=i
  ·subst hji
   rw [hi] at hj
   injection hj with hj;injection hj with hj;subst hj
   exact hq j { f with used:=u,dirty:=y } (List.getElem?_set_self hl)
  ·exact hq j k (by rw [List.getElem?_set_ne (Ne.symm hji)];exact hj)
theorem PW.disk (h:PW fs am g pg) (hi:fs[i]? = some (some f)):PW fs am (pset g f.page (some f.bs)) pg:=by
 refine ⟨h.len,fun j k hj=>?_,h.am1,h.am2,h.nd,h.pg1,fun q hq=>?_⟩
 ·by_cases hp:k.page=f.page
  ·obtain rfl:=h.uniq hj hi hp
   rw [hi] at hj
   injection hj with hj;injection hj with hj;subst hj
   exact ⟨f.bs,pset_same _ _ _,fun _=>rfl⟩
  ·rw [pset_ne hp];exact h.has j k hj
 ·rw [pset_ne (Ne.symm (hq i f hi))]
  exact h.pg2 q hq
theorem PW.gone (h:PW fs am g pg) (hi:fs[i]? = some (some f)) (hd:g f.page=some f.bs):PW (fs.set i none) (delM am (f.page:Int)) g pg:=by
 have key:∀ (j:Nat) (k:Frm),(fs.set i none)[j]? = some (some k)->j≠i/\fs[j]? = some (some k):=fun j k hj=>by
  rcases set_some (f:=f) hj with ⟨_,h2⟩|⟨h1,h2⟩
  ·cases h2
  ·exact ⟨h1,h2⟩
 refine ⟨fun j k hj=>h.len j k (key j k hj).2,fun j k hj=>h.has j k (key j k hj).2,fun j k hj=>?_,fun q v hq=>?_,delM_nodup h.nd _,fun j k hj=>h.pg1 j k (key j k hj).2,fun q hq=>?_⟩
 ·obtain ⟨h1,h2⟩:=key j k hj
  rw [findM_del h.nd,if_neg]
  ·exact h.am1 j k h2
  ·intro he
   exact h1 (h.uniq h2 hi (by omega))
 ·rw [findM_del h.nd] at hq
  split at hq
  ·cases hq
  ·rename_i hne
   obtain ⟨j,k,h1,h2,h3⟩:=h.am2 q v hq
   refine ⟨j,k,h1,?_,h3⟩
   have:j≠i:=fun he=>by
    subst he
    rw [hi] at h2
    injection h2 with h2;injection h2 with h2;subst h2
    exact hne (by rw [h3])
   rw [List.getElem?_set_ne (Ne.symm this)];exact h2
 ·by_cases hp:q=f.page
  ·subst hp
   rw [h.pg1 i f hi,hd]
  ·refine h.pg2 q fun j k hj=>?_
   by_cases hji:j=i
   ·subst hji
    rw [hi] at hj
    injection hj with hj;injection hj with hj;subst hj
    exact Ne.symm hp
   ·exact hq j k (by rw [List.getElem?_set_ne (Ne.symm hji)];exact hj)
theorem PW.lay (h:PW fs am g pg) (hi:fs[i]? = some none) (hp:pg f.page=some f.bs) (hg:g f.page=some f.bs) (hn:∀ (j:Nat) (k:Frm),fs[j]? = some (some k)->k.page≠f.page) (hl:f.bs.length=504/\504<=f.c) :
  PW (fs.set i (some f)) (putM am (f.page:Int) (i:Int)) g pg:=by
 have hil:i<fs.length:=(List.getElem?_eq_some_iff.1 hi).1
 refine ⟨fun j k hj=>?_,fun j k hj=>?_,fun j k hj=>?_,fun q v hq=>?_,putM_nodup h.nd _ _,fun j k hj=>?_,fun q hq=>?_⟩
 ·rcases set_some (f:=f) hj with ⟨_,h2⟩|⟨_,h2⟩
  ·injection h2 with h2;subst h2;exact hl
  ·exact h.len j k h2
 ·rcases set_some (f:=f) hj with ⟨_,h2⟩|⟨_,h2⟩
  ·injection h2 with h2;subst h2;exact ⟨f.bs,hg,fun _=>rfl⟩
  ·exact h.has j k h2
 ·rw [findM_put]
  rcases set_some (f:=f) hj with ⟨rfl,h2⟩|⟨_,h2⟩
  ·injection h2 with h2;subst h2;exact if_pos rfl
  ·rw [if_neg (fun he=>hn j k h2 (by omega))]
   exact h.am1 j k h2
 ·rw [findM_put] at hq
  split at hq
  ·rename_i he
   exact ⟨i,f,(Option.some.inj hq).symm,List.getElem?_set_self hil,by omega⟩
  ·obtain ⟨j,k,h1,h2,h3⟩:=h.am2 q v hq
   refine ⟨j,k,h1,?_,h3⟩
   have:j≠i:=fun he=>by subst he;rw [hi] at h2;cases h2
   rw [List.getElem?_set_ne (Ne.symm this)];exact h2
 ·rcases set_some (f:=f) hj with ⟨_,h2⟩|⟨_,h2⟩
  ·injection h2 with h2;subst h2;exact hp
  ·exact h.pg1 j k h2
 ·refine h.pg2 q fun j k hj=>?_
  have:j≠i:=fun he=>by subst he;rw [hi] at hj;cases hj
  exact hq j k (by rw [List.getElem?_set_ne (Ne.symm this)];exact hj)
theorem PW.took (h:PW fs am g pg) {q:Nat} (hq:g q=none) (v:Option (List UInt8)):PW fs am (pset g q v) (pset pg q v):=by
 have hne:∀ (j:Nat) (k:Frm),fs[j]? = some (some k)->k.page≠q:=fun j k hj he=>by
  obtain ⟨s,h1,_⟩:=h.has j k hj
  rw [he,hq] at h1;cases h1
 refine ⟨h.len,fun j k hj=>by rw [pset_ne (hne j k hj)];exact h.has j k hj,h.am1,h.am2,h.nd,fun j k hj=>by rw [pset_ne (hne j k hj)];exact h.pg1 j k hj,fun r hr=>?_⟩
 unfold pset
 split
 ·rfl
 ·exact h.pg2 r hr
theorem PW.gave (h:PW fs am g pg) {q:Nat} (hne:∀ (j:Nat) (k:Frm),fs[j]? = some (some k)->k.page≠q) (v:Option (List UInt8)):PW fs am (pset g q v) (pset pg q v):=by
 refine ⟨h.len,fun j k hj=>by rw [pset_ne (hne j k hj)];exact h.has j k hj,h.am1,h.am2,h.nd,fun j k hj=>by rw [pset_ne (hne j k hj)];exact h.pg1 j k hj,fun r hr=>?_⟩
 unfold pset
 split
 ·rfl
 ·exact h.pg2 r hr
theorem PW.gaveF (h:PW fs am g pg) (hi:fs[i]? = some (some f)):PW (fs.set i none) (delM am (f.page:Int)) (pset g f.page none) (pset pg f.page none):=by
 have h1:=(h.disk hi).gone hi (pset_same _ _ _)
 have h2:=h1.gave (q:=f.page) (fun j k hj he=>by
  rcases set_some (f:=f) hj with ⟨_,h2⟩|⟨h2,h3⟩
  ·cases h2
  ·exact h2 (h.uniq h3 hi he)) none
 have e:pset (pset g f.page (some f.bs)) f.page none=pset g f.page none:=by
  funext r
  unfold pset
  split<;>rfl
 rw [e] at h2
 exact h2
theorem PW.bytes (h:PW fs am g pg) (hi:fs[i]? = some (some f)) {bs:List UInt8} (hb:bs.length=504) (hd:f.dirty=true\/bs=f.bs) :
  PW (fs.set i (some { f with bs:=bs })) am g (pset pg f.page (some bs)):=by
 have hl:i<fs.length:=(List.getElem?_eq_some_iff.1 hi).1
 have hli:=h.len i f hi
 refine ⟨fun j k hj=>?_,fun j k hj=>?_,fun j k hj=>?_,fun q v hq=>?_,h.nd,fun j k hj=>?_,fun q hq=>?_⟩
 ·rcases set_some (f:=f) hj with ⟨_,h2⟩|⟨_,h2⟩
  ·injection h2 with h2;subst h2;exact ⟨hb,hli.2⟩
  ·exact h.len j k h2
 ·rcases set_some (f:=f) hj with ⟨_,h2⟩|⟨_,h2⟩
  ·injection h2 with h2;subst h2
   obtain ⟨s,h3,h4⟩:=h.has i f hi
   refine ⟨s,h3,fun hdd=>?_⟩
   have hdd:f.dirty=false:=hdd
   rcases hd with hd|hd
   ·rw [hd] at hdd;cases hdd
   ·show s=bs
    rw [hd];exact h4 hdd
  ·exact h.has j k h2
 ·rcases set_some (f:=f) hj with ⟨rfl,h2⟩|⟨_,h2⟩
  ·injection h2 with h2;subst h2;exact h.am1 j f hi
  ·exact h.am1 j k h2
 ·obtain ⟨j,k,h1,h2,h3⟩:=h.am2 q v hq
  by_cases hj:j=i
  ·subst hj
   rw [hi] at h2
   injection h2 with h2;injection h2 with h2;subst h2
   exact ⟨j,_,h1,List.getElem?_set_self hl,h3⟩
  ·exact ⟨j,k,h1,by rw [List.getElem?_set_ne (Ne.symm hj)];exact h2,h3⟩
 ·rcases set_some (f:=f) hj with ⟨_,h2⟩|⟨h1,h2⟩
  ·injection h2 with h2;subst h2;exact pset_same _ _ _
  ·rw [pset_ne (fun he=>h1 (h.uniq h2 hi he))]
   exact h.pg1 j k h2
 ·have hne:q≠f.page:=fun he=>hq i { f with bs:=bs } (List.getElem?_set_self hl) he.symm
  rw [pset_ne hne]
  refine h.pg2 q fun j k hj=>?_
  by_cases hji:j=i
  ·subst hji
   rw [hi] at hj
   injection hj with hj;injection hj with hj;subst hj
   exact Ne.symm hne
  ·exact hq j k (by rw [List.getElem?_set_ne (Ne.symm hji)];exact hj)
theorem PW.res (h:PW fs am g pg) {q:Nat} {s:List UInt8} (hq:pg q=some s):∃ t,g q=some t:=by
 by_cases hc:∃ (i:Nat) (f:Frm),fs[i]? = some (some f)/\f.page=q
 ·obtain ⟨i,f,h1,rfl⟩:=hc
  obtain ⟨t,h2,_⟩:=h.has i f h1
  exact ⟨t,h2⟩
 ·refine ⟨s,?_⟩
  rw [<-h.pg2 q fun i f hi he=>hc ⟨i,f,hi,he⟩]
  exact hq
end
/-! The frame rule. -/
structure Beside (base σ base' σ':ASt):Prop where
 keep:∀ x r,base x=none->σ x=some r->σ' x=some r
 sub:∀ x r,base' x=some r->σ' x=some r
 own:∀ x r,base x=none->σ x=some r->base' x=none
theorem Beside.set {base σ:ASt} {x:Nat} (r:Option Role) (he:∀ x r,base x=some r->σ x=some r) (hx:base x≠none\/σ x=none):Beside base σ (base.set x r) (σ.set x r):=by
 have hne:∀ y q,base y=none->σ y=some q->y≠x:=fun y q h1 h2 e=>by
  subst e
  rcases hx with hx|hx
  ·exact hx h1
  ·rw [hx] at h2;cases h2
 refine ⟨fun y q h1 h2=>by rw [ASt.set_ne (hne y q h1 h2)];exact h2,fun y q hy=>?_,fun y q h1 h2=>by rw [ASt.set_ne (hne y q h1 h2)];exact h1⟩
 by_cases hyx:y=x
 ·rw [hyx,ASt.set_same] at hy ⊢;exact hy
 ·rw [ASt.set_ne hyx] at hy ⊢;exact he y q hy
theorem DM.frame {σ0 σ σ0' σ':ASt} {d B cB F I cI:Nat} {D:Dsk} {rB rI:List AV} {fv:AV} (h:DM σ0 d D σ B cB rB fv F I cI rI) (hb:Beside σ0 σ σ0' σ'):DM σ0' d D σ' B cB rB fv F I cI rI:=by
 refine ⟨hb.keep _ _ h.z1 h.hd,hb.keep _ _ h.z2 h.hB,hb.keep _ _ h.z3 h.hI,h.cB,h.cI,?_,h.n1,h.n2,h.n3,hb.own _ _ h.z1 h.hd,hb.own _ _ h.z2 h.hB,hb.own _ _ h.z3 h.hI,fun x _ _ _ _=>?_⟩
 ·rcases h.hF with ⟨x1,x2,x3⟩|⟨cF,rF,x1,x2,x3,x4,x5,x6,x7,x8⟩
  ·exact .inl ⟨x1,x2,x3⟩
  ·exact .inr ⟨cF,rF,x1,hb.keep _ _ x8 x2,x3,x4,x5,x6,x7,hb.own _ _ x8 x2⟩
 ·cases hx:σ0' x with
  | none=>exact .inr rfl
  | some r=>exact .inl (hb.sub x r hx).symm
theorem DkAt.frame {σ0 σ σ0' σ':ASt} {d n:Nat} {m:Int} {g:Pgs} (h:DkAt σ0 d m n g σ) (hb:Beside σ0 σ σ0' σ'):DkAt σ0' d m n g σ':=by
 obtain ⟨D,L,⟨B,cB,rB,fv,F,I,cI,rI,h1⟩,h2⟩:=h
 exact ⟨D,L,⟨B,cB,rB,fv,F,I,cI,rI,h1.frame hb⟩,h2⟩
section
variable {base σ base' σ':ASt} {p d ra ma:Nat} {own:Nat->Nat} {hand pins:Int} {fs:List (Option Frm)} {am:List (Int×Int)} {pin:Option Nat} {tx:TxV}
theorem PM.frame (h:PM base σ p d ra ma own hand pins fs am pin tx) (hb:Beside base σ base' σ'):PM base' σ' p d ra ma own hand pins fs am pin tx:=
 ⟨hb.keep _ _ h.z1 h.hp,hb.keep _ _ h.z2 h.hr,hb.keep _ _ h.z3 h.hm,fun i f hi=>hb.keep _ _ (h.z4 i f hi).1 (h.hf i f hi),fun i f hi hn=>hb.keep _ _ ((h.z4 i f hi).2 hn) (h.hx i f hi hn),h.o1,h.o2,h.o3,h.o4,
  hb.own _ _ h.z1 h.hp,hb.own _ _ h.z2 h.hr,hb.own _ _ h.z3 h.hm,fun i f hi=>⟨hb.own _ _ (h.z4 i f hi).1 (h.hf i f hi),fun hn=>hb.own _ _ ((h.z4 i f hi).2 hn) (h.hx i f hi hn)⟩,hb.sub⟩
end
noncomputable def between (base σ1 base':ASt):ASt:=open Classical in fun x=>match base' x with
 | some r=>some r
 | none=>if base x=none then σ1 x else none
theorem Beside.two {base σ1 σ base' σ':ASt} (h1:∀ x r,base x=some r->σ1 x=some r) (h2:∀ x r,σ1 x=some r->σ x=some r) (h:Beside base σ base' σ'):Beside base σ1 base' (between base σ1 base')/\Beside σ1 σ (between base σ1 base') σ':=by
 have e1:∀ x r,base' x=some r->between base σ1 base' x=some r:=fun x r hx=>by unfold between;rw [hx]
 have e2:∀ x,base' x=none->base x=none->between base σ1 base' x=σ1 x:=fun x hx hy=>by unfold between;rw [hx];simp [hy]
 refine ⟨⟨fun x r hx hy=>?_,e1,fun x r hx hy=>h.own x r hx (h2 x r hy)⟩,⟨fun x r hx hy=>?_,fun x r hx=>?_,fun x r hx hy=>?_⟩⟩
 ·rw [e2 x (h.own x r hx (h2 x r hy)) hx];exact hy
 ·refine h.keep x r ?_ hy
  cases hc:base x with
  | none=>rfl
  | some q=>rw [h1 x q hc] at hx;cases hx
 ·cases hc:base' x with
  | some q=>rw [e1 x q hc] at hx;rw [<-hx];exact h.sub x q hc
  | none=>
    by_cases hb:base x=none
    ·rw [e2 x hc hb] at hx
     exact h.keep x r hb (h2 x r hx)
    ·unfold between at hx
     rw [hc] at hx
     simp [hb] at hx
 ·have hb:base x=none:=by
   cases hc:base x with
   | none=>rfl
   | some q=>rw [h1 x q hc] at hx;cases hx
  rw [e2 x (h.own x r hb hy) hb];exact hx
/-! What is under way. -/
structure PX where
 most:Int
 old:Option Pgs
structure TxO (base base1:ASt) (wb:Nat) (wl:List (Int×List UInt8)) (mv:AV) (md:List Nat) (gv:AV) (gn:List Nat):Prop where
 hw:base1 wb=some (.maps wl)
 zw:base wb=none
 hm:OwnR base base1 .i64 mv md
 hg:OwnR base base1 .i64 gv gn
 dj:∀ X,blkV mv=some X->blkV gv≠some X
structure TxP (old ph pg:Pgs) (wl:List (Int×List UInt8)) (md gn:List Nat):Prop where
 vw:∀ q,pg q=if q∈gn then none else ph q
 hg:∀ q,q∈gn->ph q≠none
 hm:∀ q,q∈md->ph q≠none/\old q=none
 nd:md.Nodup
 hw:∀ k s,findM wl k=some s->∃ q:Nat,k=q/\ph q≠none/\q ∉ md/\old q=some s/\s.length=504
 un:∀ (q:Nat),q ∉ md->findM wl q=none->old q=ph q
 gd:gn.Nodup
 kn:(wl.map Prod.fst).Nodup
def TxAt (base base1:ASt) (tx:TxV) (old:Option Pgs) (ph pg:Pgs) (kp:Nat->Prop):Prop:=
 (∀ y r,base y=some r->base1 y=some r)/\match old with
 | none=>tx=⟨false,.map none,.sl .full [],.sl .full []⟩/\pg=ph
 | some old=>∃ wb wl md gn mv gv,tx=⟨true,.map (some wb),mv,gv⟩/\TxO base base1 wb wl mv md gv gn/\TxP old ph pg wl md gn/\∀ q,kp q->q∈md\/(findM wl (q:Int)).isSome
section
variable {base base1 base' base1':ASt} {tx:TxV} {old:Option Pgs} {ph pg:Pgs} {kp kp':Nat->Prop} {v:AV} {l:List Nat}
theorem OwnR.frame {kk:IntKind} (h:OwnR base base1 kk v l) (hb:Beside base base1 base' base1'):OwnR base' base1' kk v l:=by
 rcases h with h|⟨X,c,R,rfl,h1,h2,h3⟩
 ·exact .inl h
 ·exact .inr ⟨X,c,R,rfl,hb.keep _ _ h2 h1,hb.own _ _ h2 h1,h3⟩
theorem TxAt.frame (h:TxAt base base1 tx old ph pg kp) (hb:Beside base base1 base' base1'):TxAt base' base1' tx old ph pg kp:=by
 obtain ⟨h1,h2⟩:=h
 refine ⟨hb.sub,?_⟩
 cases old with
 | none=>exact h2
 | some o=>
   obtain ⟨wb,wl,md,gn,mv,gv,h3,⟨g1,g2,g3,g4,g5⟩,h5⟩:=h2
   exact ⟨wb,wl,md,gn,mv,gv,h3,⟨hb.keep _ _ g2 g1,hb.own _ _ g2 g1,g3.frame hb,g4.frame hb,g5⟩,h5⟩
theorem TxAt.less (h:TxAt base base1 tx old ph pg kp) (hk:∀ q,kp' q->kp q):TxAt base base1 tx old ph pg kp':=by
 obtain ⟨h1,h2⟩:=h
 refine ⟨h1,?_⟩
 cases old with
 | none=>exact h2
 | some o=>
   obtain ⟨wb,wl,md,gn,mv,gv,h3,h4,h5,h6⟩:=h2
   exact ⟨wb,wl,md,gn,mv,gv,h3,h4,h5,fun q hq=>h6 q (hk q hq)⟩
theorem TxAt.set (h:TxAt base base1 tx old ph pg kp) {x:Nat} (r:Option Role) (hx:base x≠none\/base1 x=none):TxAt (base.set x r) (base1.set x r) tx old ph pg kp:=
 h.frame (Beside.set r h.1 hx)
theorem TxAt.phys (h:TxAt base base1 tx old ph pg kp) {q:Nat} {s:List UInt8} (hq:pg q=some s):ph q=some s:=by
 obtain ⟨h1,h2⟩:=h
 cases old with
 | none=>rw [<-h2.2];exact hq
 | some o=>
   obtain ⟨wb,wl,md,gn,mv,gv,h3,h4,h5,h6⟩:=h2
   rw [h5.vw q] at hq
   split at hq
   ·cases hq
   ·exact hq
end
def PoolAt (base σ:ASt) (p:Nat) (m:PX) (n:Nat) (pg:Pgs):Prop:=∃ base1 σ1 d ra ma own hand fs am g tx ph,DkAt σ1 d m.most n g σ/\PM base1 σ1 p d ra ma own ((hand:Nat):Int) 0 fs am none tx/\PW fs am g ph/\hand<fs.length/\fs.length<=1000/\CkT base/\TxAt base base1 tx m.old ph pg fun _=>False
def PinAt (base σ:ASt) (p:Nat) (m:PX) (n:Nat) (pg:Pgs) (page fa xa c:Nat) (dirty:Bool):Prop:=∃ base1 σ1 d ra ma own hand fs am g tx ph i f,DkAt σ1 d m.most n g σ/\PM base1 σ1 p d ra ma own ((hand:Nat):Int) 1 fs am (some i) tx/\PW fs am g ph/\hand<fs.length/\fs.length<=1000/\CkT base ∧
 fs[i]? = some (some f)/\f.page=page/\f.fa=fa/\f.xa=xa/\f.c=c/\(dirty=true->f.dirty=true)/\pg page≠none/\TxAt base base1 tx m.old ph pg fun q=>dirty=true/\q=page
section
variable {base σ base' σ':ASt} {p n page fa xa c:Nat} {m:PX} {pg:Pgs} {dirty:Bool}
theorem PoolAt.at (h:PoolAt base σ p m n pg) {x:Nat} {r:Role} (hx:base x=some r):σ x=some r:=by
 obtain ⟨base1,σ1,d,ra,ma,own,hand,fs,am,g,tx,ph,h1,h2,_,_,_,_,h3⟩:=h
 exact h1.at (h2.ext x r (h3.1 x r hx))
theorem PinAt.at (h:PinAt base σ p m n pg page fa xa c dirty) {x:Nat} {r:Role} (hx:base x=some r):σ x=some r:=by
 obtain ⟨base1,σ1,d,ra,ma,own,hand,fs,am,g,tx,ph,i,f,h1,h2,_,_,_,_,_,_,_,_,_,_,_,h3⟩:=h
 exact h1.at (h2.ext x r (h3.1 x r hx))
theorem PoolAt.frame (h:PoolAt base σ p m n pg) (hb:Beside base σ base' σ') (hc:CkT base'):PoolAt base' σ' p m n pg:=by
 obtain ⟨base1,σ1,d,ra,ma,own,hand,fs,am,g,tx,ph,h1,h2,h3,h4,h5,_,h6⟩:=h
 obtain ⟨b1,b2⟩:=hb.two h6.1 fun x r hx=>h1.at (h2.ext x r hx)
 obtain ⟨b3,b4⟩:=b2.two h2.ext fun x r=>h1.at
 exact ⟨_,_,d,ra,ma,own,hand,fs,am,g,tx,ph,h1.frame b4,h2.frame b3,h3,h4,h5,hc,h6.frame b1⟩
theorem PinAt.frame (h:PinAt base σ p m n pg page fa xa c dirty) (hb:Beside base σ base' σ') (hc:CkT base'):PinAt base' σ' p m n pg page fa xa c dirty:=by
 obtain ⟨base1,σ1,d,ra,ma,own,hand,fs,am,g,tx,ph,i,f,h1,h2,h3,h4,h5,_,g1,g2,g3,g4,g5,g6,g7,h6⟩:=h
 obtain ⟨b1,b2⟩:=hb.two h6.1 fun x r hx=>h1.at (h2.ext x r hx)
 obtain ⟨b3,b4⟩:=b2.two h2.ext fun x r=>h1.at
 exact ⟨_,_,d,ra,ma,own,hand,fs,am,g,tx,ph,i,f,h1.frame b4,h2.frame b3,h3,h4,h5,hc,g1,g2,g3,g4,g5,g6,g7,h6.frame b1⟩
theorem CkT.away {x:Nat} {r:Option Role} (h:CkT base) (hx:x≠0):CkT (base.set x r):=by
 unfold CkT at *
 rw [ASt.set_ne (Ne.symm hx)];exact h
theorem PoolAt.ck (h:PoolAt base σ p m n pg):CkT base:=by
 obtain ⟨base1,σ1,d,ra,ma,own,hand,fs,am,g,tx,ph,_,_,_,_,_,h6,_⟩:=h
 exact h6
theorem PinAt.ck (h:PinAt base σ p m n pg page fa xa c dirty):CkT base:=by
 obtain ⟨base1,σ1,d,ra,ma,own,hand,fs,am,g,tx,ph,i,f,_,_,_,_,_,h6,_⟩:=h
 exact h6
theorem PoolAt.set (h:PoolAt base σ p m n pg) {x:Nat} (r:Option Role) (hx:base x≠none\/σ x=none) (hk:x≠0):PoolAt (base.set x r) (σ.set x r) p m n pg:=
 h.frame (Beside.set r (fun x r=>h.at) hx) (h.ck.away hk)
theorem PinAt.set (h:PinAt base σ p m n pg page fa xa c dirty) {x:Nat} (r:Option Role) (hx:base x≠none\/σ x=none) (hk:x≠0):PinAt (base.set x r) (σ.set x r) p m n pg page fa xa c dirty:=
 h.frame (Beside.set r (fun x r=>h.at) hx) (h.ck.away hk)
theorem PoolAt.less (h:PoolAt base σ p m n pg) (hb:∀ x r,base' x=some r->base x=some r) (hc:CkT base'):PoolAt base' σ p m n pg:=
 h.frame ⟨fun x r _ hx=>hx,fun x r hx=>h.at (hb x r hx),fun x r hx _=>by
  cases hcx:base' x with
  | none=>rfl
  | some q=>rw [hb x q hcx] at hx;cases hx⟩ hc
theorem PoolAt.rng (h:PoolAt base σ p m n pg) {q:Nat} {s:List UInt8} (hq:pg q=some s):1<=q/\q<60000:=by
 obtain ⟨base1,σ1,d,ra,ma,own,hand,fs,am,g,tx,ph,h1,h2,h3,_,_,_,h6⟩:=h
 obtain ⟨t,ht⟩:=h3.res (h6.phys hq)
 exact h1.rng ht
theorem PoolAt.slen (h:PoolAt base σ p m n pg) {q:Nat} {s:List UInt8} (hq:pg q=some s):s.length=504:=by
 obtain ⟨base1,σ1,d,ra,ma,own,hand,fs,am,g,tx,ph,h1,h2,h3,_,_,_,h6⟩:=h
 have hq:=h6.phys hq
 by_cases hc:∃ (i:Nat) (f:Frm),fs[i]? = some (some f)/\f.page=q
 ·obtain ⟨i,f,h4,rfl⟩:=hc
  have h5:=h3.pg1 i f h4
  rw [hq] at h5
  rw [Option.some.inj h5]
  exact (h3.len i f h4).1
 ·rw [h3.pg2 q fun i f hi he=>hc ⟨i,f,hi,he⟩] at hq
  exact h1.slen hq
theorem PoolAt.more (h:PoolAt base σ p m n pg) {n':Nat} (hn:n<=n'):PoolAt base σ p m n' pg:=by
 obtain ⟨base1,σ1,d,ra,ma,own,hand,fs,am,g,tx,ph,⟨D,L,h1,h2,h3,h4⟩,h5⟩:=h
 exact ⟨base1,σ1,d,ra,ma,own,hand,fs,am,g,tx,ph,⟨D,L,h1,h2,by omega,h4⟩,h5⟩
end
section
variable {old ph pg:Pgs} {wl:List (Int×List UInt8)} {md gn:List Nat} {q:Nat} {s:List UInt8}
theorem TxP.wrote (h:TxP old ph pg wl md gn) (hk:q∈md\/(findM wl (q:Int)).isSome) (hg:q ∉ gn) (s:List UInt8):TxP old (pset ph q (some s)) (pset pg q (some s)) wl md gn:=by
 have hph:∀ r,ph r≠none->pset ph q (some s) r≠none:=fun r hr=>by
  unfold pset;split
  ·simp
  ·exact hr
 refine ⟨fun r=>?_,fun r hr=>hph r (h.hg r hr),fun r hr=>⟨hph r (h.hm r hr).1,(h.hm r hr).2⟩,h.nd,fun k t hk=>?_,fun r hr hf=>?_,h.gd,h.kn⟩
 ·unfold pset
  by_cases hr:r=q
  ·subst hr;rw [if_pos rfl,if_pos rfl,if_neg hg]
  ·rw [if_neg hr,if_neg hr];exact h.vw r
 ·obtain ⟨r,h1,h2,h3⟩:=h.hw k t hk
  exact ⟨r,h1,hph r h2,h3⟩
 ·have hne:r≠q:=fun e=>by
   subst e
   rcases hk with hk|hk
   ·exact hr hk
   ·rw [hf] at hk;cases hk
  rw [pset_ne hne];exact h.un r hr hf
theorem TxP.keep (h:TxP old ph pg wl md gn) (hm:q ∉ md) (hf:findM wl (q:Int)=none) (hq:ph q=some s) (hs:s.length=504):TxP old ph pg (putM wl (q:Int) s) md gn:=by
 have hk:(putM wl (q:Int) s).map Prod.fst=wl.map Prod.fst ++ [(q:Int)]:=by
  rw [putM_keys,if_neg]
  intro hc
  obtain ⟨p,hp,he⟩:=List.mem_map.1 hc
  have:findM wl (q:Int)≠none:=by
   rw [<-he]
   clear hf he hc h
   induction wl with
   | nil=>cases hp
   | cons a l ih=>
     unfold findM
     split
     ·simp
     ·rename_i hne
      rcases List.mem_cons.1 hp with rfl|hp
      ·exact absurd rfl hne
      ·exact ih hp
  exact this hf
 refine ⟨h.vw,h.hg,h.hm,h.nd,fun k t hk=>?_,fun r hr hf2=>?_,h.gd,putM_nodup h.kn _ _⟩
 ·rw [findM_put] at hk
  split at hk
  ·rename_i he
   injection hk with hk
   subst hk
   exact ⟨q,he,by rw [hq];simp,hm,by rw [h.un q hm hf];exact hq,hs⟩
  ·exact h.hw k t hk
 ·rw [findM_put] at hf2
  split at hf2
  ·cases hf2
  ·exact h.un r hr hf2
theorem TxP.took (h:TxP old ph pg wl md gn) (hq:ph q=none) (s:List UInt8):TxP old (pset ph q (some s)) (pset pg q (some s)) wl (md ++ [q]) gn:=by
 have hmd:q ∉ md:=fun hc=>(h.hm q hc).1 hq
 have hgn:q ∉ gn:=fun hc=>h.hg q hc hq
 have hf:findM wl (q:Int)=none:=by
  cases hc:findM wl (q:Int) with
  | none=>rfl
  | some t=>
    obtain ⟨r,h1,h2,_⟩:=h.hw _ _ hc
    obtain rfl:q=r:=by omega
    exact absurd hq h2
 have hph:∀ r,ph r≠none->pset ph q (some s) r≠none:=fun r hr=>by
  unfold pset;split
  ·simp
  ·exact hr
 refine ⟨fun r=>?_,fun r hr=>hph r (h.hg r hr),fun r hr=>?_,?_,fun k t hk=>?_,fun r hr hf=>?_,h.gd,h.kn⟩
 ·unfold pset
  by_cases hr:r=q
  ·subst hr;rw [if_pos rfl,if_pos rfl,if_neg hgn]
  ·rw [if_neg hr,if_neg hr];exact h.vw r
 ·rcases List.mem_append.1 hr with hr|hr
  ·exact ⟨hph r (h.hm r hr).1,(h.hm r hr).2⟩
  ·obtain rfl:=List.mem_singleton.1 hr
   exact ⟨by rw [pset_same];simp,by rw [h.un r hmd hf];exact hq⟩
 ·rw [List.nodup_append]
  refine ⟨h.nd,by simp,fun a ha b hb=>?_⟩
  rw [List.mem_singleton.1 hb]
  rintro rfl
  exact hmd ha
 ·obtain ⟨r,h1,h2,h3,h4⟩:=h.hw k t hk
  refine ⟨r,h1,hph r h2,fun hc=>?_,h4⟩
  rcases List.mem_append.1 hc with hc|hc
  ·exact h3 hc
  ·rw [List.mem_singleton.1 hc] at h2;exact h2 hq
 ·have hne:r≠q:=fun e=>hr (by rw [e];simp)
  rw [pset_ne hne]
  exact h.un r (fun hc=>hr (List.mem_append_left _ hc)) hf
theorem TxP.gave (h:TxP old ph pg wl md gn) (hq:ph q≠none) (hn:q ∉ gn):TxP old ph (pset pg q none) wl md (gn ++ [q]):=by
 refine ⟨fun r=>?_,fun r hr=>?_,h.hm,h.nd,h.hw,h.un,?_,h.kn⟩
 ·unfold pset
  by_cases hr:r=q
  ·subst hr;rw [if_pos rfl,if_pos (by simp)]
  ·rw [if_neg hr,h.vw r]
   by_cases hc:r∈gn
   ·rw [if_pos hc,if_pos (List.mem_append_left _ hc)]
   ·rw [if_neg hc,if_neg]
    intro he
    rcases List.mem_append.1 he with he|he
    ·exact hc he
    ·exact hr (List.mem_singleton.1 he)
 ·rcases List.mem_append.1 hr with hr|hr
  ·exact h.hg r hr
  ·rw [List.mem_singleton.1 hr];exact hq
 ·rw [List.nodup_append]
  refine ⟨h.gd,by simp,fun a ha b hb=>?_⟩
  rw [List.mem_singleton.1 hb]
  rintro rfl
  exact hn ha
theorem TxP.few (h:TxP old ph pg wl md gn) (hr:∀ q,ph q≠none->q<60000):wl.length<=60000/\md.length<=60000/\gn.length<=60000:=by
 refine ⟨?_,nodup_len 60000 h.nd fun q hq=>hr q (h.hm q hq).1,nodup_len 60000 h.gd fun q hq=>hr q (h.hg q hq)⟩
 have e:wl.length=((wl.map Prod.fst).map Int.toNat).length:=by rw [List.length_map,List.length_map]
 have key:∀ k∈wl.map Prod.fst,∃ q:Nat,k=q/\q<60000:=fun k hk=>by
  obtain ⟨p,hp,he⟩:=List.mem_map.1 hk
  cases hf:findM wl k with
  | none=>
    exfalso
    clear h hr e hk
    induction wl with
    | nil=>cases hp
    | cons a l ih=>
      unfold findM at hf
      split at hf
      ·cases hf
      ·rename_i hne
       rcases List.mem_cons.1 hp with rfl|hp
       ·exact hne he.symm
       ·exact ih hp hf
  | some s=>
    obtain ⟨q,h1,h2,_⟩:=h.hw k s hf
    exact ⟨q,h1,hr q h2⟩
 rw [e]
 refine nodup_len 60000 ?_ fun q hq=>?_
 ·have hn:=h.kn
  generalize wl.map Prod.fst=L at *
  clear e h
  induction L with
  | nil=>exact List.nodup_nil
  | cons a L ih=>
    rw [List.nodup_cons] at hn
    rw [List.map_cons,List.nodup_cons]
    refine ⟨fun hc=>?_,ih (fun k hk=>key k (List.mem_cons_of_mem _ hk)) hn.2⟩
    obtain ⟨b,hb,hab⟩:=List.mem_map.1 hc
    obtain ⟨x,hx,_⟩:=key a List.mem_cons_self
    obtain ⟨y,hy,_⟩:=key b (List.mem_cons_of_mem _ hb)
    have:a=b:=by omega
    exact hn.1 (this▸hb)
 ·obtain ⟨k,hk,rfl⟩:=List.mem_map.1 hq
  obtain ⟨x,hx,hl⟩:=key k hk
  omega
theorem TxP.begun (pg:Pgs):TxP pg pg pg [] [] []:=
 ⟨fun q=>by simp,fun q hq=>(by cases hq),fun q hq=>(by cases hq),List.nodup_nil,fun k s h=>(by cases h),fun q _ _=>rfl,List.nodup_nil,List.nodup_nil⟩
theorem TxP.undo (h:TxP old ph pg wl md gn) {ph':Pgs} (h1:∀ (q:Nat) s,q ∉ md->findM wl (q:Int)=some s->ph' q=some s) (h2:∀ (q:Nat),q ∉ md->findM wl (q:Int)=none->ph' q=ph q) (h3:∀ (q:Nat),q∈md->ph' q=none):ph'=old:=by
 funext q
 by_cases hm:q∈md
 ·rw [h3 q hm,(h.hm q hm).2]
 ·cases hf:findM wl (q:Int) with
  | none=>rw [h2 q hm hf,h.un q hm hf]
  | some s=>
    obtain ⟨r,g1,_,_,g2,_⟩:=h.hw _ _ hf
    obtain rfl:q=r:=by omega
    rw [h1 q s hm hf,g2]
end
end Go.A
namespace Go.A
open Go.Proofs
/-! 144: (*tabular/pool.Pool).victim -/
def c144_29:ACode := .seq (.ops [ oq 12 (.bin .lss (.t 11) (.t 10))]) (.seq (.cond (.t 12) .skip (.exit 0)) (.seq (.block 1 (.seq (.ops [ oq 13 (.mv (.t 0)),oq 14 (.nc (.t 13)),oq 15 (.fa 3 (.t 14)),oq 16 (.ld none (.t 15)),oq 3 (.mv (.t 16))]) (.seq (.ops [ oq 17 (.mv (.t 0)),oq 18 (.mv (.t 0)),oq 19 (.nc (.t 18)),oq 20 (.fa 3 (.t 19)),oq 21 (.ld none (.t 20)),oq 22 (.bin .add (.t 21) (.v (.int .i64 1))),oq 23 (.mv (.t 0)),oq 24 (.nc (.t 23)),oq 25 (.fa 1 (.t 24)),oq 26 (.ld none (.t 25)),oq 27 (.len (.t 26)),oq 28 (.bin .rem (.t 22) (.t 27)),oq 29 (.nc (.t 17)),oq 30 (.fa 3 (.t 29)),oz (.store 1 (.t 30) (.t 28))]) (.seq (.ops [ oq 31 (.mv (.t 0)),oq 32 (.nc (.t 31)),oq 33 (.fa 1 (.t 32)),oq 34 (.ld none (.t 33)),oq 35 (.mv (.t 3)),oq 36 (.ia 1 (.t 34) (.t 35)),oq 37 (.ld none (.t 36)),oq 4 (.mv (.t 37))]) (.block 2 (.seq (.ops [ oq 40 (.mv (.t 4)),oq 41 (.eq .p false (.t 40) (.v .nilp)),oq 39 (.mv (.t 41))]) (.cond (.t 39) (.seq (.ops [ oq 42 (.mv (.t 3)),oq 2 (.mv (.t 42))]) .ret) (.seq (.ops [ oq 44 (.mv (.t 4)),oq 45 (.nc (.t 44)),oq 46 (.fa 3 (.t 45)),oq 47 (.ld none (.t 46)),oq 48 (.bin .gtr (.t 47) (.v (.int .i64 0))),oq 43 (.mv (.t 48))]) (.cond (.t 43) .skip (.seq (.ops [ oq 50 (.mv (.t 4)),oq 51 (.nc (.t 50)),oq 52 (.fa 4 (.t 51)),oq 53 (.ld none (.t 52)),oq 49 (.mv (.t 53))]) (.cond (.t 49) (.ops [ oq 54 (.mv (.t 4)),oq 55 (.nc (.t 54)),oq 56 (.fa 4 (.t 55)),oz (.store 1 (.t 56) (.v (.bool false)))]) (.seq (.ops [ oq 38 (.mv (.t 3)),oq 2 (.mv (.t 38))]) .ret)))))))))))) (.ops [ oq 57 (.bin .add (.t 11) (.v (.int .i64 1))),oq 11 (.mv (.t 57))])))
def c144_36:ACode := .seq (.ops [ oq 2 (.mv (.v (.int .i64 0)))]) (.seq (.seq (.ops [ oq 5 (.mv (.t 0)),oq 6 (.nc (.t 5)),oq 7 (.fa 1 (.t 6)),oq 8 (.ld none (.t 7)),oq 9 (.len (.t 8)),oq 10 (.bin .mul (.v (.int .i64 2)) (.t 9)),oq 11 (.mv (.v (.int .i64 0)))]) (.block 0 (.loop c144_29))) (.seq (.ops [ oq 2 (.mv (.v (.int .i64 (-1))))]) .ret))
@[go_sem] def c144_29_wp:=wp_of c144_29.eq_1
@[go_sem] def c144_36_wp:=wp_of c144_36.eq_1
def c144:AFn:=⟨58,[.t 2],c144_36⟩
theorem c144_ok:compF Tryz.prog Tryz.f144=some c144:=by kernel_rfl
theorem a144 {args:List AV} {σ:ASt} {R:AV->ASt->Prop} (hl:args.length<=58) (h:c144_36.wp Tryz.prog (RetQ [.t 2] R) (init args) σ):ACalls Tryz.prog 144 args σ R:=acalls_of Tryz.func144 c144_ok hl h
end Go.A
section
attribute [local go_sem] reduceCtorEq Nat.reduceEqDiff Nat.reduceAdd Nat.reduceSub Nat.reduceMul Nat.reduceLeDiff Int.reduceLT Int.reduceLE Int.reduceEq Int.reduceNeg Int.reduceAdd Int.reduceSub Int.reduceMul true_imp_iff forall_const Nat.mul_one Int.reduceToNat Nat.reducePow Int.reducePow Bool.true_and Bool.false_and Bool.and_false
attribute [local go_sem ↓] reduceIte
namespace Go.A
open Go.Proofs
def PS (base σ:ASt) (p d ra ma:Nat) (own:Nat->Nat) (hand pins:Int) (fs:List (Option Frm)) (am:List (Int×Int)) (pin:Option Nat) (tx:TxV) (m:Int) (n:Nat) (g:Pgs):Prop:=
 ∃ σ1,DkAt σ1 d m n g σ/\PM base σ1 p d ra ma own hand pins fs am pin tx/\CkT base
section
variable {base σ:ASt} {p d ra ma n hand:Nat} {own:Nat->Nat} {pins hnd:Int} {fs:List (Option Frm)} {am:List (Int×Int)} {pin:Option Nat} {tx:TxV} {m:Int} {g pg:Pgs} {i:Nat} {f:Frm}
theorem PS.hp (h:PS base σ p d ra ma own hnd pins fs am pin tx m n g):σ p=some (.obj [.ptr d 0,.msl ra 0 fs.length fs.length,.map (some ma),.int .i64 hnd,.int .i64 pins,.bool tx.op,tx.wv,tx.mv,tx.gv]):=by
 obtain ⟨σ1,h1,h2,_⟩:=h
 exact h1.at h2.hp
theorem PS.hr (h:PS base σ p d ra ma own hnd pins fs am pin tx m n g):σ ra=some (.obj (fs.map frV)):=by
 obtain ⟨σ1,h1,h2,_⟩:=h
 exact h1.at h2.hr
theorem PS.hm (h:PS base σ p d ra ma own hnd pins fs am pin tx m n g):σ ma=some (.map am):=by
 obtain ⟨σ1,h1,h2,_⟩:=h
 exact h1.at h2.hm
theorem PS.hf (h:PS base σ p d ra ma own hnd pins fs am pin tx m n g) (hi:fs[i]? = some (some f)):σ f.fa=some (.obj [.ptr p 0,.int .i64 f.page,.msl f.xa 0 504 f.c,.int .i64 (pinV pin i),.bool f.used,.bool f.dirty]):=by
 obtain ⟨σ1,h1,h2,_⟩:=h
 exact h1.at (h2.hf i f hi)
theorem PS.hx (h:PS base σ p d ra ma own hnd pins fs am pin tx m n g) (hi:fs[i]? = some (some f)) (hn:pin≠some i):σ f.xa=some (.obj (bytesAV f.bs)):=by
 obtain ⟨σ1,h1,h2,_⟩:=h
 exact h1.at (h2.hx i f hi hn)
theorem PS.hb (h:PS base σ p d ra ma own hnd pins fs am pin tx m n g) {x:Nat} {r:Role} (hx:base x=some r):σ x=some r:=by
 obtain ⟨σ1,h1,h2,_⟩:=h
 exact h1.at (h2.ext x r hx)
theorem PS.setP (h:PS base σ p d ra ma own hnd pins fs am pin tx m n g) (hand' pins':Int) (tx':TxV) :
  PS base (σ.set p (some (.obj [.ptr d 0,.msl ra 0 fs.length fs.length,.map (some ma),.int .i64 hand',.int .i64 pins',.bool tx'.op,tx'.wv,tx'.mv,tx'.gv]))) p d ra ma own hand' pins' fs am pin tx' m n g:=by
 obtain ⟨σ1,h1,h2,h3⟩:=h
 exact ⟨_,h1.put _ h2.hp,h2.setP hand' pins' tx',h3⟩
theorem PS.setM (h:PS base σ p d ra ma own hnd pins fs am pin tx m n g) (am':List (Int×Int)):PS base (σ.set ma (some (.map am'))) p d ra ma own hnd pins fs am' pin tx m n g:=by
 obtain ⟨σ1,h1,h2,h3⟩:=h
 exact ⟨_,h1.put _ h2.hm,h2.setM am',h3⟩
theorem PS.setN (h:PS base σ p d ra ma own hnd pins fs am pin tx m n g) (hi:pin≠some i):PS base (σ.set ra (some (.obj ((fs.set i none).map frV)))) p d ra ma own hnd pins (fs.set i none) am pin tx m n g:=by
 obtain ⟨σ1,h1,h2,h3⟩:=h
 exact ⟨_,h1.put _ h2.hr,h2.setN hi,h3⟩
theorem PS.setF (h:PS base σ p d ra ma own hnd pins fs am pin tx m n g) (hi:fs[i]? = some (some f)) (u y:Bool) :
  PS base (σ.set f.fa (some (.obj [.ptr p 0,.int .i64 f.page,.msl f.xa 0 504 f.c,.int .i64 (pinV pin i),.bool u,.bool y]))) p d ra ma own hnd pins (fs.set i (some { f with used:=u,dirty:=y })) am pin tx m n g:=by
 obtain ⟨σ1,h1,h2,h3⟩:=h
 exact ⟨_,h1.put _ (h2.hf i f hi),h2.setF hi u y,h3⟩
theorem pinV_none (i:Nat):pinV none i=0:=if_neg (by intro h;cases h)
theorem row_get {o:Option Frm} (h:fs[i]? = some o):(fs.map frV)[i]? = some (frV o):=by rw [List.getElem?_map,h];rfl
theorem row_set (hl:i<fs.length) (o:Option Frm):(fs.map frV).take i ++ [frV o]++(fs.map frV).drop (i+1)=(fs.set i o).map frV:=by
 rw [List.map_set,List.set_eq_take_append_cons_drop,if_pos (by rw [List.length_map];exact hl)]
 simp only [List.append_assoc,List.singleton_append,List.cons_append,List.nil_append]
set_option maxHeartbeats 1000000 in
theorem plvictim_ok (h:PS base σ p d ra ma own (hand:Int) 0 fs am none tx m n g) (hw:PW fs am g pg) (hh:hand<fs.length) (hk:fs.length<=1000) :
  ACalls Tryz.prog 144 [.ptr p 0] σ fun v σ'=>∃ (i hand':Nat) (fs':List (Option Frm)),v = .int .i64 i/\i<fs'.length/\fs'.length=fs.length/\hand'<fs.length/\PS base σ' p d ra ma own (hand':Int) 0 fs' am none tx m n g/\PW fs' am g pg/\∀ (j:Nat) (k:Frm),fs'[j]? = some (some k)->∃ k',fs[j]? = some (some k')/\k'.page=k.page:=by
 obtain ⟨k,hkk⟩:∃ k,k=fs.length:=⟨_,rfl⟩
 have hp0:=h.hp
 rw [<-hkk] at hh hk hp0
 refine a144 (by simp) ?_
 simp (disch:=first|assumption|omega|(simp only [List.length_append,List.length_cons,List.length_nil];omega)) only [go_sem,hp0]
 obtain ⟨J,hJ⟩:∃ J:Nat->AFr->ASt->Prop,J=fun j a1 s2=>j<=k/\(a1 0 = .ptr p 0/\a1 10 = .int .i64 (2*(k:Int))/\a1 11 = .int .i64 j)/\∃ (hd:Nat) (fs':List (Option Frm)),hd=(hand+j) % k/\fs'.length=k/\PS base s2 p d ra ma own (hd:Int) 0 fs' am none tx m n g/\PW fs' am g pg ∧
  (∀ t,t<j->∃ f,fs'[(hand+t) % k]? = some (some f)/\f.used=false)/\∀ (j:Nat) (k:Frm),fs'[j]? = some (some k)->∃ k',fs[j]? = some (some k')/\k'.page=k.page:=⟨_,rfl⟩
 refine wp_loop_on J (fun j=>k+1-j) 0 ?_ ?_
 ·rw [hJ]
  refine ⟨Nat.zero_le _,?_,hand,fs,?_,hkk.symm,h,hw,fun t ht=>absurd ht (Nat.not_lt_zero _),fun j k hj=>⟨k,hj,rfl⟩⟩
  ·simp (disch:=first|assumption|omega|(simp only [List.length_append,List.length_cons,List.length_nil];omega)) only [go_sem]
  ·rw [Nat.add_zero,Nat.mod_eq_of_lt hh]
 intro j a1 s2 hj
 rw [hJ] at hj
 obtain ⟨hj,hf,hd,fs',hhd,hl,hs,hw',hu,hsm⟩:=hj
 have hdl:hd<k:=by rw [hhd];exact Nat.mod_lt _ (by omega)
 have hp1:=hs.hp
 rw [hl] at hp1
 have hlt:(j:Int)<2*(k:Int):=by omega
 have k0:¬ (k:Int)=0:=by omega
 obtain ⟨hd',hhd'⟩:∃ q,q=(hd+1) % k:=⟨_,rfl⟩
 have e:((hd:Int)+1).tmod (k:Int)=(hd':Int):=by
  rw [Int.tmod_eq_emod_of_nonneg (by omega),hhd']
  rfl
 have hd2:hd'=(hand+(j+1)) % k:=by
  rw [hhd',hhd,Nat.mod_add_mod,Nat.add_assoc]
 have hdl':hd'<k:=by rw [hhd'];exact Nat.mod_lt _ (by omega)
 have hs2:=hs.setP (hd':Int) 0 tx
 rw [hl] at hs2
 have hi:(hd:Int)<(k:Int):=by omega
 obtain ⟨o, ho⟩ : ∃ o, fs'[hd]? = some o := ⟨fs'[hd]'(by omega), List.getElem?_eq_getElem (by omega)⟩
 have hrow:=hs2.hr
 have hget:=row_get (fs:=fs') ho
 have hp2:=hs2.hp
 rw [hl] at hp2
 obtain ⟨s3,hs3⟩:∃ s,s=s2.set p (some (.obj [.ptr d 0,.msl ra 0 k k,.map (some ma),.int .i64 (hd':Int),.int .i64 0,.bool tx.op,tx.wv,tx.mv,tx.gv])):=⟨_,rfl⟩
 rw [<-hs3] at hs2 hrow hp2
 generalize hMR:fs'.map frV=MR at *
 cases o with
 | none=>
   have hv:frV none = .nilp:=rfl
   rw [hv] at hget
   simp (disch:=first|assumption|omega|(simp only [List.length_append,List.length_cons,List.length_nil];omega)) only [go_sem,hf,hlt,hp1,e]
   rw [<-hs3]
   simp (disch:=first|assumption|omega|(simp only [List.length_append,List.length_cons,List.length_nil];omega)) only [go_sem,hf,hp2,hrow,hget,Int.toNat_natCast,Nat.zero_add]
   exact retC_by (.refl _) (.refl _) ⟨hd,hd',fs',rfl,by omega,by omega,by omega,hs2,hw',hsm⟩
 | some f=>
   have hv:frV (some f) = .ptr f.fa 0:=rfl
   rw [hv] at hget
   have hfa:=hs2.hf ho
   rw [pinV_none] at hfa
   cases hfu:f.used with
   | false=>
     rw [hfu] at hfa
     simp (disch:=first|assumption|omega|(simp only [List.length_append,List.length_cons,List.length_nil];omega)) only [go_sem,hf,hlt,hp1,e]
     rw [<-hs3]
     simp (disch:=first|assumption|omega|(simp only [List.length_append,List.length_cons,List.length_nil];omega)) only [go_sem,hf,hp2,hrow,hget,hfa,Int.toNat_natCast,Nat.zero_add]
     exact retC_by (.refl _) (.refl _) ⟨hd,hd',fs',rfl,by omega,by omega,by omega,hs2,hw',hsm⟩
   | true=>
     rw [hfu] at hfa
     have hjk:j<k:=by
      refine Classical.byContradiction fun hc=>?_
      have hjk:j=k:=by omega
      obtain ⟨f',h1,h2⟩:=hu 0 (by omega)
      have:(hand+0) % k=hd:=by rw [hhd,hjk,Nat.add_zero,Nat.add_mod_right]
      rw [this,ho] at h1
      injection h1 with h1;injection h1 with h1;subst h1
      rw [hfu] at h2;cases h2
     have hs4:=hs2.setF ho false f.dirty
     have hw4:=hw'.flag ho false f.dirty (.inr (.inl rfl))
     rw [pinV_none] at hs4
     simp (disch:=first|assumption|omega|(simp only [List.length_append,List.length_cons,List.length_nil];omega)) only [go_sem,hf,hlt,hp1,e]
     rw [<-hs3]
     simp (disch:=first|assumption|omega|(simp only [List.length_append,List.length_cons,List.length_nil];omega)) only [go_sem,hf,hp2,hrow,hget,hfa,Int.toNat_natCast,Nat.zero_add]
     refine ⟨j+1,by omega,?_⟩
     rw [hJ]
     refine ⟨hjk,?_,hd',_,hd2,by rw [List.length_set];exact hl,hs4,hw4,fun t ht=>?_,fun j2 k2 hj2=>?_⟩
     ·simp (disch:=first|assumption|omega|(simp only [List.length_append,List.length_cons,List.length_nil];omega)) only [go_sem,hf]
     ·by_cases htj:t=j
      ·subst htj
       rw [<-hhd]
       exact ⟨_,List.getElem?_set_self (by omega),rfl⟩
      ·obtain ⟨f',h1,h2⟩:=hu t (by omega)
       by_cases hq:(hand+t) % k=hd
       ·rw [hq]
        exact ⟨_,List.getElem?_set_self (by omega),rfl⟩
       ·rw [List.getElem?_set_ne (Ne.symm hq)]
        exact ⟨f',h1,h2⟩
     ·rcases set_some (f:=f) hj2 with ⟨rfl,h2⟩|⟨_,h2⟩
      ·injection h2 with h2;subst h2
       exact hsm _ f ho
      ·exact hsm j2 k2 h2
end
end Go.A
namespace Go.A
open Go.Proofs
/-! 87: (*tabular/pool.Pool).room -/
def c87_26:ACode := .seq (.ops [ oq 2 (.mv (.v (.int .i64 0))),oq 3 (.mv (.v (.int .i64 0)))]) (.seq (.ops [ oq 7 (.mv (.t 0)),oe 8 (.call 144 [(.t 7)]),oq 4 (.mv (.t 8))]) (.seq (.seq (.ops [ oq 9 (.mv (.t 4)),oq 10 (.bin .lss (.t 9) (.v (.int .i64 0)))]) (.cond (.t 10) (.seq (.ops [ oq 2 (.mv (.v (.int .i64 0))),oq 3 (.mv (.v (.int .i64 9)))]) .ret) .skip)) (.seq (.seq (.ops [ oq 11 (.mv (.t 0)),oq 12 (.nc (.t 11)),oq 13 (.fa 1 (.t 12)),oq 14 (.ld none (.t 13)),oq 15 (.mv (.t 4)),oq 16 (.ia 1 (.t 14) (.t 15)),oq 17 (.ld none (.t 16)),oq 5 (.mv (.t 17))]) (.seq (.ops [ oq 18 (.mv (.t 5)),oq 19 (.eq .p true (.t 18) (.v .nilp))]) (.cond (.t 19) (.seq (.seq (.ops [ oq 20 (.mv (.t 0)),oq 21 (.mv (.t 5)),oe 22 (.call 145 [(.t 20),(.t 21)]),oq 6 (.mv (.t 22))]) (.seq (.ops [ oq 23 (.mv (.t 6)),oq 24 (.bin .neq (.t 23) (.v (.int .i64 0)))]) (.cond (.t 24) (.seq (.ops [ oq 25 (.mv (.t 6)),oq 2 (.mv (.v (.int .i64 0))),oq 3 (.mv (.t 25))]) .ret) .skip))) (.ops [ oq 26 (.mv (.t 0)),oq 27 (.mv (.t 5)),oq 28 (.nc (.t 27)),oq 29 (.fa 1 (.t 28)),oq 30 (.ld none (.t 29)),oe 31 (.call 103 [(.t 26),(.t 30)])])) .skip))) (.seq (.ops [ oq 32 (.mv (.t 4)),oq 2 (.mv (.t 32)),oq 3 (.mv (.v (.int .i64 0)))]) .ret))))
@[go_sem] def c87_26_wp:=wp_of c87_26.eq_1
def c87:AFn:=⟨33,[.t 2,.t 3],c87_26⟩
theorem c87_ok:compF Tryz.prog Tryz.f87=some c87:=by kernel_rfl
theorem a87 {args:List AV} {σ:ASt} {R:AV->ASt->Prop} (hl:args.length<=33) (h:c87_26.wp Tryz.prog (RetQ [.t 2,.t 3] R) (init args) σ):ACalls Tryz.prog 87 args σ R:=acalls_of Tryz.func87 c87_ok hl h
/-! 88: (*tabular/pool.Pool).lay -/
def c88_11:ACode := .seq (.ops [ oq 8 (.mv (.v .nilp))]) (.seq (.ops [ oq 10 (.mv (.t 0)),oq 11 (.mv (.t 2)),oq 12 (.mv (.t 3)),oe 13 (.s2b (.t 12)),oq 14 (.build [.nilp,(.int .i64 0),(.sl .full []),(.int .i64 0),(.bool false),(.bool false)] [(0,1,(.t 10)),(1,1,(.t 11)),(2,1,(.t 13)),(3,1,(.v (.int .i64 1))),(4,1,(.v (.bool true)))]),oe 15 (.box (.t 14)),oq 9 (.mv (.t 15))]) (.seq (.ops [ oq 16 (.mv (.t 0)),oq 17 (.nc (.t 16)),oq 18 (.fa 1 (.t 17)),oq 19 (.ld none (.t 18)),oq 20 (.mv (.t 1)),oq 21 (.mv (.t 9)),oq 22 (.ia 1 (.t 19) (.t 20)),oz (.store 1 (.t 22) (.t 21))]) (.seq (.ops [ oq 23 (.mv (.t 0)),oq 24 (.nc (.t 23)),oq 25 (.fa 2 (.t 24)),oq 26 (.ld none (.t 25)),oq 27 (.mv (.t 2)),oq 28 (.mv (.t 1)),oz (.mset (.t 26) (.t 27) (.t 28))]) (.seq (.ops [ oq 29 (.mv (.t 0)),oq 30 (.nc (.t 29)),oq 31 (.fa 4 (.t 30)),oq 32 (.ld none (.t 31)),oq 33 (.bin .add (.t 32) (.v (.int .i64 1))),oq 34 (.nc (.t 29)),oq 35 (.fa 4 (.t 34)),oz (.store 1 (.t 35) (.t 33))]) (.seq (.ops [ oq 36 (.mv (.t 9)),oq 8 (.mv (.t 36))]) .ret)))))
@[go_sem] def c88_11_wp:=wp_of c88_11.eq_1
def c88:AFn:=⟨37,[.t 8],c88_11⟩
theorem c88_ok:compF Tryz.prog Tryz.f88=some c88:=by kernel_rfl
theorem a88 {args:List AV} {σ:ASt} {R:AV->ASt->Prop} (hl:args.length<=37) (h:c88_11.wp Tryz.prog (RetQ [.t 8] R) (init args) σ):ACalls Tryz.prog 88 args σ R:=acalls_of Tryz.func88 c88_ok hl h
/-! 103: (*tabular/pool.Pool).forget -/
def c103_7:ACode := .seq (.ops [ oq 7 (.mv (.t 0)),oq 8 (.nc (.t 7)),oq 9 (.fa 2 (.t 8)),oq 10 (.ld none (.t 9)),oq 11 (.mv (.t 1)),oq 12 (.mget (.t 10) (.t 11)),oq 6 (.mv (.t 12)),oq 13 (.ext 0 (.t 6)),oq 14 (.ext 1 (.t 6)),oq 4 (.mv (.t 13)),oq 5 (.mv (.t 14))]) (.seq (.ops [ oq 15 (.mv (.t 5))]) (.cond (.t 15) (.seq (.ops [ oq 16 (.mv (.t 0)),oq 17 (.nc (.t 16)),oq 18 (.fa 1 (.t 17)),oq 19 (.ld none (.t 18)),oq 20 (.mv (.t 4)),oq 21 (.ia 1 (.t 19) (.t 20)),oz (.store 1 (.t 21) (.v .nilp))]) (.ops [ oq 22 (.mv (.t 0)),oq 23 (.nc (.t 22)),oq 24 (.fa 2 (.t 23)),oq 25 (.ld none (.t 24)),oq 26 (.mv (.t 1)),oz (.mdel (.t 25) (.t 26))])) .skip))
@[go_sem] def c103_7_wp:=wp_of c103_7.eq_1
def c103:AFn:=⟨27,[],c103_7⟩
theorem c103_ok:compF Tryz.prog Tryz.f103=some c103:=by kernel_rfl
theorem a103 {args:List AV} {σ:ASt} {R:AV->ASt->Prop} (hl:args.length<=27) (h:c103_7.wp Tryz.prog (RetQ [] R) (init args) σ):ACalls Tryz.prog 103 args σ R:=acalls_of Tryz.func103 c103_ok hl h
/-! 145: (*tabular/pool.Pool).write -/
def c145_13:ACode := .seq (.ops [ oq 4 (.mv (.v (.int .i64 0)))]) (.seq (.seq (.ops [ oq 6 (.mv (.t 1)),oq 7 (.nc (.t 6)),oq 8 (.fa 5 (.t 7)),oq 9 (.ld none (.t 8)),oq 10 (.un .not (.t 9))]) (.cond (.t 10) (.seq (.ops [ oq 4 (.mv (.v (.int .i64 0)))]) .ret) .skip)) (.seq (.ops [ oq 11 (.mv (.t 0)),oq 12 (.nc (.t 11)),oq 13 (.fa 0 (.t 12)),oq 14 (.ld none (.t 13)),oq 15 (.mv (.t 1)),oq 16 (.nc (.t 15)),oq 17 (.fa 1 (.t 16)),oq 18 (.ld none (.t 17)),oq 19 (.mv (.t 1)),oq 20 (.nc (.t 19)),oq 21 (.fa 2 (.t 20)),oq 22 (.ld none (.t 21)),oq 23 (.b2s (.t 22)),oe 24 (.call 166 [(.t 14),(.t 18),(.t 23)]),oq 5 (.mv (.t 24))]) (.seq (.ops [ oq 25 (.mv (.t 1)),oq 26 (.mv (.t 5)),oq 27 (.bin .neq (.t 26) (.v (.int .i64 0))),oq 28 (.nc (.t 25)),oq 29 (.fa 5 (.t 28)),oz (.store 1 (.t 29) (.t 27))]) (.seq (.ops [ oq 30 (.mv (.t 5)),oq 4 (.mv (.t 30))]) .ret))))
@[go_sem] def c145_13_wp:=wp_of c145_13.eq_1
def c145:AFn:=⟨31,[.t 4],c145_13⟩
theorem c145_ok:compF Tryz.prog Tryz.f145=some c145:=by kernel_rfl
theorem a145 {args:List AV} {σ:ASt} {R:AV->ASt->Prop} (hl:args.length<=31) (h:c145_13.wp Tryz.prog (RetQ [.t 4] R) (init args) σ):ACalls Tryz.prog 145 args σ R:=acalls_of Tryz.func145 c145_ok hl h
end Go.A
namespace Go.A
open Go.Proofs
section
variable {base σ:ASt} {p d ra ma n hand:Nat} {own:Nat->Nat} {pins hnd:Int} {fs:List (Option Frm)} {am:List (Int×Int)} {pin:Option Nat} {tx:TxV} {m:Int} {g pg:Pgs} {i q:Nat} {f:Frm} {s t:List UInt8}
theorem PS.ckT (h:PS base σ p d ra ma own hnd pins fs am pin tx m n g):CkT base:=by
 obtain ⟨σ1,h1,h2,h3⟩:=h
 exact h3
theorem pswrite_ok (h:PS base σ p d ra ma own hnd pins fs am pin tx m n g) (hp:g q=some t) (hs:s.length=504) :
  ACalls Tryz.prog 166 [.ptr d 0,.int .i64 q,.str s] σ fun v σ'=>v = .int .i64 0/\PS base σ' p d ra ma own hnd pins fs am pin tx m n (pset g q (some s)):=by
 obtain ⟨σ1,h1,h2,h3⟩:=h
 refine (ddwrite_ok (h2.ext _ _ h3) h1 hp hs).mono ?_
 rintro v σ' ⟨h4,h5⟩
 exact ⟨h4,σ1,h5,h2,h3⟩
theorem psread_ok (h:PS base σ p d ra ma own hnd pins fs am pin tx m n g) (hp:g q=some s) :
  ACalls Tryz.prog 139 [.ptr d 0,.int .i64 q] σ fun v σ'=>v = .tuple [.str s,.int .i64 0]/\PS base σ' p d ra ma own hnd pins fs am pin tx m n g:=by
 obtain ⟨σ1,h1,h2,h3⟩:=h
 refine (ddread_ok (h2.ext _ _ h3) h1 hp).mono ?_
 rintro v σ' ⟨h4,h5⟩
 exact ⟨h4,σ1,h5,h2,h3⟩
theorem pshas_ok (h:PS base σ p d ra ma own hnd pins fs am pin tx m n g) (hp:g q=some s) :
  ACalls Tryz.prog 100 [.ptr d 0,.int .i64 q] σ fun v σ'=>v = .bool true/\σ'=σ:=by
 obtain ⟨σ1,h1,h2,h3⟩:=h
 exact ddhas_ok h1 hp
theorem pstake_ok (h:PS base σ p d ra ma own hnd pins fs am pin tx m n g) (hroom:(n:Int)<m) :
  ACalls Tryz.prog 24 [.ptr d 0] σ fun v σ'=>∃ q:Nat,v = .tuple [.int .i64 q,.int .i64 0]/\g q=none/\1<=q/\q<60000/\PS base σ' p d ra ma own hnd pins fs am pin tx m (n+1) (pset g q (some (List.replicate 504 0))):=by
 obtain ⟨σ1,h1,h2,h3⟩:=h
 refine (ddtake_ok (h2.ext _ _ h3) h1 hroom).mono ?_
 rintro v σ' ⟨q,h4,h6,h7,h8,h5⟩
 exact ⟨q,h4,h6,h7,h8,σ1,h5,h2,h3⟩
theorem psgive_ok (h:PS base σ p d ra ma own hnd pins fs am pin tx m n g) (hp:g q=some t) :
  ACalls Tryz.prog 102 [.ptr d 0,.int .i64 q] σ fun v σ'=>v = .int .i64 0/\PS base σ' p d ra ma own hnd pins fs am pin tx m n (pset g q none):=by
 obtain ⟨σ1,h1,h2,h3⟩:=h
 refine (ddgive_ok (h2.ext _ _ h3) h1 hp).mono ?_
 rintro v σ' ⟨h4,h5⟩
 exact ⟨h4,σ1,h5,h2,h3⟩
theorem fset_id (hi:fs[i]? = some (some f)):fs.set i (some f)=fs:=by
 refine List.ext_getElem? fun j=>?_
 by_cases hj:j=i
 ·subst hj
  rw [List.getElem?_set_self (List.getElem?_eq_some_iff.1 hi).1,hi]
 ·rw [List.getElem?_set_ne (Ne.symm hj)]
theorem plwrite_ok (h:PS base σ p d ra ma own hnd pins fs am none tx m n g) (hw:PW fs am g pg) (hi:fs[i]? = some (some f)) :
  ACalls Tryz.prog 145 [.ptr p 0,.ptr f.fa 0] σ fun v σ'=>v = .int .i64 0/\∃ g',PS base σ' p d ra ma own hnd pins (fs.set i (some { f with dirty:=false })) am none tx m n g'/\PW (fs.set i (some { f with dirty:=false })) am g' pg/\g' f.page=some f.bs:=by
 have hp:=h.hp
 have hf:=h.hf hi
 rw [pinV_none] at hf
 obtain ⟨s,hg,hgd⟩:=hw.has i f hi
 obtain ⟨hbl,hcl⟩:=hw.len i f hi
 cases hd:f.dirty with
 | false=>
   rw [hd] at hf
   have he:({ f with dirty:=false }:Frm)=f:=by rw [<-hd]
   have h2:=hgd hd
   rw [h2] at hg
   refine a145 (by simp) ?_
   simp (disch:=first|assumption|omega|(simp only [List.length_append,List.length_cons,List.length_nil];omega)) only [go_sem,hf]
   exact retC_by (.refl _) (.refl _) ⟨rfl,g,by rw [he,fset_id hi];exact h,by rw [he,fset_id hi];exact hw,hg⟩
 | true=>
   rw [hd] at hf
   have hx:=h.hx hi (by simp)
   have hwr:=pswrite_ok h hg hbl
   have hl:504<=f.bs.length:=by omega
   have ht:(bytesAV f.bs).take 504=bytesAV f.bs:=List.take_of_length_le (by rw [kbytes_len];omega)
   refine a145 (by simp) ?_
   simp (disch:=first|assumption|omega|(simp only [List.length_append,List.length_cons,List.length_nil];omega)) only [go_sem,hf,hp,hx,hl,ht,List.drop_zero,Nat.zero_add]
   refine hwr.mono ?_
   rintro v σ' ⟨rfl,h2⟩
   have hf2:=h2.hf hi
   rw [pinV_none] at hf2
   have h3:=h2.setF hi f.used false
   rw [pinV_none] at h3
   have h4:=(hw.disk hi).flag hi f.used false (.inr (.inr (pset_same _ _ _)))
   simp (disch:=first|assumption|omega|(simp only [List.length_append,List.length_cons,List.length_nil];omega)) only [go_sem,hf2]
   exact retC_by (.refl _) (.refl _) ⟨rfl,_,h3,h4,pset_same _ _ _⟩
theorem plforget_ok (h:PS base σ p d ra ma own hnd pins fs am pin tx m n g) (hn:pin≠some i) (hi:i<fs.length) (hq:findM am (q:Int)=some (i:Int)) :
  ACalls Tryz.prog 103 [.ptr p 0,.int .i64 q] σ fun v σ'=>v = .tuple []/\PS base σ' p d ra ma own hnd pins (fs.set i none) (delM am (q:Int)) pin tx m n g:=by
 have hp:=h.hp
 have hm:=h.hm
 have hr:=h.hr
 have h2:=h.setN hn
 have h3:=h2.setM (delM am (q:Int))
 have hp2:=h2.hp
 have hm2:=h2.hm
 have hrs:=row_set hi none
 have hrl:(fs.map frV).length=fs.length:=List.length_map _
 rw [List.length_set] at hp2
 have hv:frV none = .nilp:=rfl
 rw [hv] at hrs
 generalize (fs.set i none).map frV=R2 at *
 generalize fs.map frV=R1 at *
 have i1:(i:Int)<(fs.length:Int):=by omega
 have i2:i+1<=R1.length:=by omega
 obtain ⟨s2,hs2⟩:∃ s2,s2=σ.set ra (some (.obj R2)):=⟨_,rfl⟩
 rw [<-hs2] at hp2 hm2 h3
 refine a103 (by simp) ?_
 simp (disch:=first|assumption|omega|(simp only [List.length_append,List.length_cons,List.length_nil];omega)) only [go_sem,hp,hm,hq,Option.getD_some,Option.isSome_some,hr,Int.toNat_natCast,Nat.zero_add,i2,hrs]
 rw [<-hs2]
 simp (disch:=first|assumption|omega|(simp only [List.length_append,List.length_cons,List.length_nil];omega)) only [go_sem,hp2,hm2]
 exact retC_by (.refl _) (.refl _) ⟨rfl,h3⟩
theorem plforget_no (h:PS base σ p d ra ma own hnd pins fs am pin tx m n g) (hq:findM am (q:Int)=none) :
  ACalls Tryz.prog 103 [.ptr p 0,.int .i64 q] σ fun v σ'=>v = .tuple []/\σ'=σ:=by
 have hp:=h.hp
 have hm:=h.hm
 refine a103 (by simp) ?_
 simp (disch:=first|assumption|omega|(simp only [List.length_append,List.length_cons,List.length_nil];omega)) only [go_sem,hp,hm,hq,Option.getD_none,Option.isSome_none]
 exact retC_by (.refl _) (.refl _) ⟨rfl,rfl⟩
theorem plroom_ok (h:PS base σ p d ra ma own (hand:Int) 0 fs am none tx m n g) (hw:PW fs am g pg) (hh:hand<fs.length) (hk:fs.length<=1000) :
  ACalls Tryz.prog 87 [.ptr p 0] σ fun v σ'=>∃ (i hand':Nat) (fs':List (Option Frm)) (am':List (Int×Int)) (g':Pgs),v = .tuple [.int .i64 i,.int .i64 0]/\fs'[i]? = some none/\fs'.length=fs.length/\hand'<fs'.length/\PS base σ' p d ra ma own (hand':Int) 0 fs' am' none tx m n g'/\PW fs' am' g' pg ∧
   ∀ (j:Nat) (k:Frm),fs'[j]? = some (some k)->∃ k',fs[j]? = some (some k')/\k'.page=k.page:=by
 refine a87 (by simp) ?_
 simp (disch:=first|assumption|omega|(simp only [List.length_append,List.length_cons,List.length_nil];omega)) only [go_sem]
 refine (plvictim_ok h hw hh hk).mono ?_
 rintro v σ1 ⟨i,hand',fs1,rfl,hi,hl1,hh1,h1,hw1,hsm⟩
 have hp:=h1.hp
 have hr:=h1.hr
 obtain ⟨o, ho⟩ : ∃ o, fs1[i]? = some o := ⟨fs1[i]'(by omega), List.getElem?_eq_getElem (by omega)⟩
 have hget:=row_get (fs:=fs1) ho
 generalize fs1.map frV=MR at *
 have i0:¬ (i:Int)<0:=by omega
 have i1:(i:Int)<(fs1.length:Int):=by omega
 cases o with
 | none=>
   have hv:frV none = .nilp:=rfl
   rw [hv] at hget
   simp (disch:=first|assumption|omega|(simp only [List.length_append,List.length_cons,List.length_nil];omega)) only [go_sem,i0,hp,hr,hget,Int.toNat_natCast,Nat.zero_add]
   exact retC_by (.refl _) (.refl _) ⟨i,hand',fs1,am,g,rfl,ho,hl1,by omega,h1,hw1,hsm⟩
 | some f=>
   have hv:frV (some f) = .ptr f.fa 0:=rfl
   rw [hv] at hget
   have hwr:=plwrite_ok h1 hw1 ho
   simp (disch:=first|assumption|omega|(simp only [List.length_append,List.length_cons,List.length_nil];omega)) only [go_sem,i0,hp,hr,hget,Int.toNat_natCast,Nat.zero_add]
   refine hwr.mono ?_
   rintro v σ2 ⟨rfl,g2,h2,hw2,hg2⟩
   have hi2:(fs1.set i (some { f with dirty:=false }))[i]? = some (some { f with dirty:=false }):=List.getElem?_set_self (by omega)
   have hf2:=h2.hf hi2
   have ham:=hw2.am1 i _ hi2
   have hfg:=plforget_ok h2 (i:=i) (q:=f.page) (by simp) (by rw [List.length_set];omega) ham
   have hw3:=hw2.gone hi2 hg2
   dsimp only at hf2
   simp (disch:=first|assumption|omega|(simp only [List.length_append,List.length_cons,List.length_nil];omega)) only [go_sem,hf2]
   refine hfg.mono ?_
   rintro v σ3 ⟨rfl,h3⟩
   simp (disch:=first|assumption|omega|(simp only [List.length_append,List.length_cons,List.length_nil];omega)) only [go_sem]
   refine retC_by (.refl _) (.refl _) ⟨i,hand',_,_,g2,rfl,?_,?_,?_,h3,hw3,fun j k hj=>?_⟩
   ·rw [List.getElem?_set_self]
    rw [List.length_set];omega
   ·rw [List.length_set,List.length_set];exact hl1
   ·rw [List.length_set,List.length_set];omega
   ·rcases set_some (f:=f) hj with ⟨_,h5⟩|⟨h4,h5⟩
    ·cases h5
    ·rw [List.getElem?_set_ne (Ne.symm h4)] at h5
     exact hsm j k h5
theorem pllay_ok (h:PS base σ p d ra ma own hnd 0 fs am none tx m n g) (hi:fs[i]? = some none) (hl:s.length=504) (hk:fs.length<=1000) :
  ACalls Tryz.prog 88 [.ptr p 0,.int .i64 i,.int .i64 q,.str s] σ fun v σ'=>∃ (f:Frm) (own':Nat->Nat),v = .ptr f.fa 0/\f.page=q/\f.bs=s/\f.dirty=false/\504<=f.c/\σ f.xa=none ∧
   PS (base.set f.xa (some (.obj (bytesAV f.bs)))) σ' p d ra ma own' hnd 1 (fs.set i (some f)) (putM am (q:Int) (i:Int)) (some i) tx m n g:=by
 obtain ⟨σ1,h1,h2,h3⟩:=h
 refine a88 (by simp) ?_
 simp (disch:=first|assumption|omega|(simp only [List.length_append,List.length_cons,List.length_nil];omega)) only [go_sem]
 refine s2b_own fun xa c hxa hc=>?_
 simp (disch:=first|assumption|omega|(simp only [List.length_append,List.length_cons,List.length_nil];omega)) only [go_sem]
 refine boxC_by rfl fun fa hfa=>?_
 obtain ⟨e1,e2,hfz⟩:=set_none hfa
 have hg1:=h1.gone hxa
 have hg2:=h1.gone hfz
 obtain ⟨f,hf⟩:∃ f:Frm,f=⟨fa,xa,c,q,s,true,false⟩:=⟨_,rfl⟩
 have h4:=h2.addF (f:=f) hi (by rw [hf];exact hg2) (by rw [hf];exact hg1) (by rw [hf];exact e1)
 have h5:=h4.setM (putM am (q:Int) (i:Int))
 have h6:=h5.setP hnd 1 tx
 have hlen:(fs.set i (some f)).length=fs.length:=List.length_set
 have hl':(s.length:Int)=504:=by omega
 have hil:i<fs.length:=(List.getElem?_eq_some_iff.1 hi).1
 have o1:=h2.o1
 have o2:=h2.o2
 have o3:=h2.o3
 have ne:∀ {y:Nat} {r:Role},σ1 y=some r->y≠fa/\y≠xa:=fun {y r} hy=>⟨fun e=>(by rw [e,hg2] at hy;cases hy),fun e=>(by rw [e,hg1] at hy;cases hy)⟩
 obtain ⟨pf,px⟩:=ne h2.hp
 obtain ⟨rf,rx⟩:=ne h2.hr
 obtain ⟨mf,mx⟩:=ne h2.hm
 have pr:p≠ra:=fun e=>by rw [e] at o1;omega
 have pm:p≠ma:=fun e=>by rw [e] at o1;omega
 have rm:ra≠ma:=fun e=>by rw [e] at o2;omega
 have mr:=Ne.symm rm
 have hp:=h1.at h2.hp
 have hr:=h1.at h2.hr
 have hm:=h1.at h2.hm
 have hrs:=row_set hil (some f)
 have hfv:frV (some f) = .ptr fa 0:=by rw [hf];rfl
 have hfc:f.cs p 1 = [.ptr p 0,.int .i64 q,.msl xa 0 504 c,.int .i64 1,.bool true,.bool false]:=by rw [hf];rfl
 have hrl:(fs.map frV).length=fs.length:=List.length_map _
 rw [hfv] at hrs
 have d2:=(h1.add (some (.obj (bytesAV s))) hxa).add (some (.obj (f.cs p 1))) hfa
 have d3:=d2.put (some (.obj ((fs.set i (some f)).map frV))) ((ASt.set_ne rf).trans ((ASt.set_ne rx).trans h2.hr))
 rw [hfc] at d3
 have hfx:f.xa=xa:=by rw [hf]
 have hff:f.fa=fa:=by rw [hf]
 have hfb:f.bs=s:=by rw [hf]
 rw [hfx,hff,hfb,hfc] at h4 h5 h6
 have d4:=d3.put (some (.map (putM am (q:Int) (i:Int)))) h4.hm
 have d5:=d4.put (some (.obj (plCs d ra ma (fs.set i (some f)).length hnd 1 tx))) h5.hp
 have hfin:PS (base.set xa (some (.obj (bytesAV s)))) _ p d ra ma _ hnd 1 (fs.set i (some f)) (putM am (q:Int) (i:Int)) (some i) tx m n g:=⟨_,d5,h6,h3.away fun e=>by rw [e,h1.at (h2.ext _ _ h3)] at hxa;cases hxa⟩
 unfold plCs at hp hfin
 rw [hlen] at hfin
 have i1:(i:Int)<(fs.length:Int):=by omega
 have i2:i+1<=(fs.map frV).length:=by omega
 clear d2 d3 d4 d5 h4 h5 h6
 generalize (fs.set i (some f)).map frV=R2 at *
 generalize fs.map frV=R1 at *
 simp (disch:=first|assumption|omega|(simp only [List.length_append,List.length_cons,List.length_nil];omega)) only [go_sem,hl,hl',hp,hr,hm,Int.toNat_natCast,Nat.zero_add,hrs,i2]
 refine retC_by (r := .ptr fa 0) (.refl _) (.refl _) ⟨f,(fun x=>if x=fa then 2*i+3 else if x=xa then 2*i+4 else own x),by rw [hff],by rw [hf],hfb,by rw [hf],by rw [hf];show 504<=c;omega,by rw [hfx];exact hxa,?_⟩
 rw [hfx,hfb]
 exact hfin
end
end Go.A
namespace Go.A
open Go.Proofs
/-! 72: (*tabular/pool.Pool).Pin -/
def c72_40:ACode := .seq (.seq (.ops [ oq 12 (.mv (.t 0)),oq 13 (.nc (.t 12)),oq 14 (.fa 0 (.t 13)),oq 15 (.ld none (.t 14)),oq 16 (.mv (.t 1)),oe 17 (.call 100 [(.t 15),(.t 16)]),oq 18 (.un .not (.t 17)),oq 19 (.mv (.t 18)),⟨some 20,some (19,false),.q (.mv (.t 0)),[]⟩,⟨some 21,some (19,false),.q (.nc (.t 20)),[]⟩,⟨some 22,some (19,false),.q (.fa 8 (.t 21)),[]⟩,⟨some 23,some (19,false),.q (.ld none (.t 22)),[]⟩,⟨some 24,some (19,false),.q (.mv (.t 1)),[]⟩,⟨some 25,some (19,false),.e (.call 101 [(.t 23),(.t 24)]),[]⟩,oq 26 (.pick (.t 19) (.v (.bool true)) (.t 25))]) (.cond (.t 26) (.seq (.ops [ oq 4 (.mv (.v .nilp)),oq 5 (.mv (.v (.int .i64 4)))]) .ret) .skip)) (.seq (.seq (.ops [ oq 28 (.mv (.t 0)),oq 29 (.nc (.t 28)),oq 30 (.fa 2 (.t 29)),oq 31 (.ld none (.t 30)),oq 32 (.mv (.t 1)),oq 33 (.mget (.t 31) (.t 32)),oq 27 (.mv (.t 33)),oq 34 (.ext 0 (.t 27)),oq 35 (.ext 1 (.t 27)),oq 6 (.mv (.t 34)),oq 7 (.mv (.t 35))]) (.seq (.ops [ oq 36 (.mv (.t 7))]) (.cond (.t 36) (.seq (.ops [ oq 37 (.mv (.t 0)),oq 38 (.nc (.t 37)),oq 39 (.fa 1 (.t 38)),oq 40 (.ld none (.t 39)),oq 41 (.mv (.t 6)),oq 42 (.ia 1 (.t 40) (.t 41)),oq 43 (.ld none (.t 42)),oq 8 (.mv (.t 43))]) (.seq (.ops [ oq 44 (.mv (.t 8)),oq 45 (.nc (.t 44)),oq 46 (.fa 3 (.t 45)),oq 47 (.ld none (.t 46)),oq 48 (.bin .add (.t 47) (.v (.int .i64 1))),oq 49 (.nc (.t 44)),oq 50 (.fa 3 (.t 49)),oz (.store 1 (.t 50) (.t 48))]) (.seq (.ops [ oq 51 (.mv (.t 8)),oq 52 (.nc (.t 51)),oq 53 (.fa 4 (.t 52)),oz (.store 1 (.t 53) (.v (.bool true)))]) (.seq (.ops [ oq 54 (.mv (.t 0)),oq 55 (.nc (.t 54)),oq 56 (.fa 4 (.t 55)),oq 57 (.ld none (.t 56)),oq 58 (.bin .add (.t 57) (.v (.int .i64 1))),oq 59 (.nc (.t 54)),oq 60 (.fa 4 (.t 59)),oz (.store 1 (.t 60) (.t 58))]) (.seq (.ops [ oq 61 (.mv (.t 8)),oq 4 (.mv (.t 61)),oq 5 (.mv (.v (.int .i64 0)))]) .ret))))) .skip))) (.seq (.ops [ oq 63 (.mv (.t 0)),oe 64 (.call 87 [(.t 63)]),oq 62 (.mv (.t 64)),oq 65 (.ext 0 (.t 62)),oq 66 (.ext 1 (.t 62)),oq 9 (.mv (.t 65)),oq 10 (.mv (.t 66))]) (.seq (.seq (.ops [ oq 67 (.mv (.t 10)),oq 68 (.bin .neq (.t 67) (.v (.int .i64 0)))]) (.cond (.t 68) (.seq (.ops [ oq 69 (.mv (.t 10)),oq 4 (.mv (.v .nilp)),oq 5 (.mv (.t 69))]) .ret) .skip)) (.seq (.ops [ oq 71 (.mv (.t 0)),oq 72 (.nc (.t 71)),oq 73 (.fa 0 (.t 72)),oq 74 (.ld none (.t 73)),oq 75 (.mv (.t 1)),oe 76 (.call 139 [(.t 74),(.t 75)]),oq 70 (.mv (.t 76)),oq 77 (.ext 0 (.t 70)),oq 78 (.ext 1 (.t 70)),oq 11 (.mv (.t 77)),oq 10 (.mv (.t 78))]) (.seq (.seq (.ops [ oq 79 (.mv (.t 10)),oq 80 (.bin .neq (.t 79) (.v (.int .i64 0)))]) (.cond (.t 80) (.seq (.ops [ oq 81 (.mv (.t 10)),oq 4 (.mv (.v .nilp)),oq 5 (.mv (.t 81))]) .ret) .skip)) (.seq (.ops [ oq 82 (.mv (.t 0)),oq 83 (.mv (.t 9)),oq 84 (.mv (.t 1)),oq 85 (.mv (.t 11)),oe 86 (.call 88 [(.t 82),(.t 83),(.t 84),(.t 85)]),oq 4 (.mv (.t 86)),oq 5 (.mv (.v (.int .i64 0)))]) .ret))))))
def c72_41:ACode := .seq (.ops [ oq 4 (.mv (.v .nilp)),oq 5 (.mv (.v (.int .i64 0)))]) c72_40
@[go_sem] def c72_40_wp:=wp_of c72_40.eq_1
@[go_sem] def c72_41_wp:=wp_of c72_41.eq_1
def c72:AFn:=⟨87,[.t 4,.t 5],c72_41⟩
theorem c72_ok:compF Tryz.prog Tryz.f72=some c72:=by kernel_rfl
theorem a72 {args:List AV} {σ:ASt} {R:AV->ASt->Prop} (hl:args.length<=87) (h:c72_41.wp Tryz.prog (RetQ [.t 4,.t 5] R) (init args) σ):ACalls Tryz.prog 72 args σ R:=acalls_of Tryz.func72 c72_ok hl h
/-! 101: slices.Contains[[]int,int] -/
def c101_3:ACode := .seq (.ops [ oq 4 (.mv (.v (.bool false)))]) (.seq (.ops [ oq 5 (.mv (.t 0)),oq 6 (.mv (.t 1)),oe 7 (.call 55 [(.t 5),(.t 6)]),oq 8 (.bin .geq (.t 7) (.v (.int .i64 0))),oq 4 (.mv (.t 8))]) .ret)
@[go_sem] def c101_3_wp:=wp_of c101_3.eq_1
def c101:AFn:=⟨9,[.t 4],c101_3⟩
theorem c101_ok:compF Tryz.prog Tryz.f101=some c101:=by kernel_rfl
theorem a101 {args:List AV} {σ:ASt} {R:AV->ASt->Prop} (hl:args.length<=9) (h:c101_3.wp Tryz.prog (RetQ [.t 4] R) (init args) σ):ACalls Tryz.prog 101 args σ R:=acalls_of Tryz.func101 c101_ok hl h
end Go.A
namespace Go.A
open Go.Proofs
section
variable {base base1 σ:ASt} {p d ra ma n hand page fa xa c:Nat} {own:Nat->Nat} {pins hnd:Int} {fs:List (Option Frm)} {am:List (Int×Int)} {pin:Option Nat} {tx:TxV} {mo:Int} {m:PX} {g ph pg:Pgs} {ed:Bool} {i q:Nat} {f:Frm} {s t:List UInt8} {dirty:Bool}
theorem PoolAt.open (h:PoolAt base σ p m n pg):∃ base1 d ra ma own hand fs am g tx ph,PS base1 σ p d ra ma own ((hand:Nat):Int) 0 fs am none tx m.most n g/\PW fs am g ph/\hand<fs.length/\fs.length<=1000/\TxAt base base1 tx m.old ph pg fun _=>False:=by
 obtain ⟨base1,σ1,d,ra,ma,own,hand,fs,am,g,tx,ph,h1,h2,h3,h4,h5,h6,h7⟩:=h
 exact ⟨base1,d,ra,ma,own,hand,fs,am,g,tx,ph,⟨σ1,h1,h2,h7.1 _ _ h6⟩,h3,h4,h5,h7⟩
theorem PoolAt.shut (h:PS base1 σ p d ra ma own ((hand:Nat):Int) 0 fs am none tx m.most n g) (hw:PW fs am g ph) (h1:hand<fs.length) (h2:fs.length<=1000) (hc:CkT base) (ht:TxAt base base1 tx m.old ph pg fun _=>False):PoolAt base σ p m n pg:=by
 obtain ⟨σ1,h3,h4,h5⟩:=h
 exact ⟨base1,σ1,d,ra,ma,own,hand,fs,am,g,tx,ph,h3,h4,hw,h1,h2,hc,ht⟩
theorem PinAt.open (h:PinAt base σ p m n pg page fa xa c dirty):∃ base1 d ra ma own hand fs am g tx ph i f,PS base1 σ p d ra ma own ((hand:Nat):Int) 1 fs am (some i) tx m.most n g/\PW fs am g ph/\hand<fs.length/\fs.length<=1000 ∧
  fs[i]? = some (some f)/\f.page=page/\f.fa=fa/\f.xa=xa/\f.c=c/\(dirty=true->f.dirty=true)/\pg page≠none/\TxAt base base1 tx m.old ph pg fun q=>dirty=true/\q=page:=by
 obtain ⟨base1,σ1,d,ra,ma,own,hand,fs,am,g,tx,ph,i,f,h1,h2,h3,h4,h5,h6,g1,g2,g3,g4,g5,g6,g7,h7⟩:=h
 exact ⟨base1,d,ra,ma,own,hand,fs,am,g,tx,ph,i,f,⟨σ1,h1,h2,h7.1 _ _ h6⟩,h3,h4,h5,g1,g2,g3,g4,g5,g6,g7,h7⟩
theorem PinAt.shut (h:PS base1 σ p d ra ma own ((hand:Nat):Int) 1 fs am (some i) tx m.most n g) (hw:PW fs am g ph) (h1:hand<fs.length) (h2:fs.length<=1000) (hi:fs[i]? = some (some f)) (hc:CkT base) (hd:ed=true->f.dirty=true) (hg:pg f.page≠none) (ht:TxAt base base1 tx m.old ph pg fun q=>ed=true/\q=f.page):PinAt base σ p m n pg f.page f.fa f.xa f.c ed:=by
 obtain ⟨σ1,h3,h4,h5⟩:=h
 exact ⟨base1,σ1,d,ra,ma,own,hand,fs,am,g,tx,ph,i,f,h3,h4,hw,h1,h2,hc,hi,rfl,rfl,rfl,rfl,hd,hg,ht⟩
theorem PS.put (h:PS base1 σ p d ra ma own hnd pins fs am pin tx mo n g) {x:Nat} (r:Role) (hx:base1 x≠none\/σ x=none) (hk:x≠0):PS (base1.set x (some r)) (σ.set x (some r)) p d ra ma own hnd pins fs am pin tx mo n g:=by
 obtain ⟨σ1,h1,h2,h3⟩:=h
 rcases hx with hx|hx
 ·cases hb:base1 x with
  | none=>exact absurd hb hx
  | some q=>exact ⟨_,h1.put _ (h2.ext x q hb),h2.frame (Beside.set _ h2.ext (.inl hx)),h3.away hk⟩
 ·exact ⟨_,h1.add _ hx,h2.frame (Beside.set _ h2.ext (.inr (h1.gone hx))),h3.away hk⟩
theorem PS.few (h:PS base1 σ p d ra ma own hnd pins fs am pin tx mo n g) (hw:PW fs am g ph):∀ q,ph q≠none->q<60000:=fun q hq=>by
 obtain ⟨σ1,h1,h2,h3⟩:=h
 cases hc:ph q with
 | none=>exact absurd hc hq
 | some s=>
   obtain ⟨t,ht⟩:=hw.res hc
   exact (h1.rng ht).2
theorem TxAt.gone {kp:Nat->Prop} {old:Option Pgs} (h:TxAt base base1 tx old ph pg kp) (hf:∀ q,ph q≠none->q<60000):∃ gn,OwnR base base1 .i64 tx.gv gn/\gn.length<=60000/\∀ q s,pg q=some s->q ∉ gn:=by
 obtain ⟨h1,h2⟩:=h
 cases old with
 | none=>
   obtain ⟨rfl,_⟩:=h2
   exact ⟨[],OwnR.nil _ _ _,by decide,fun q s _=>by simp⟩
 | some o=>
   obtain ⟨wb,wl,md,gn,mv,gv,rfl,h4,h5,h6⟩:=h2
   refine ⟨gn,h4.hg,(h5.few hf).2.2,fun q s hq hc=>?_⟩
   rw [h5.vw q,if_pos hc] at hq
   cases hq
theorem PS.pinned (h:PS base σ p d ra ma own hnd pins fs am none tx mo n g) (hi:fs[i]? = some (some f)) (hk:f.xa≠0) :
  PS (base.set f.xa (some (.obj (bytesAV f.bs)))) (σ.set f.fa (some (.obj [.ptr p 0,.int .i64 f.page,.msl f.xa 0 504 f.c,.int .i64 1,.bool true,.bool f.dirty]))) p d ra ma own hnd pins (fs.set i (some { f with used:=true })) am (some i) tx mo n g:=by
 obtain ⟨σ1,h1,h2,h3⟩:=h
 exact ⟨_,h1.put _ (h2.hf i f hi),h2.pinned hi true,h3.away hk⟩
theorem PS.unpin (h:PS base σ p d ra ma own hnd pins fs am (some i) tx mo n g) (hi:fs[i]? = some (some f)) (hk:f.xa≠0) {bs:List UInt8} (hx:base f.xa=some (.obj (bytesAV bs))) :
  PS (base.set f.xa none) (σ.set f.fa (some (.obj [.ptr p 0,.int .i64 f.page,.msl f.xa 0 504 f.c,.int .i64 0,.bool f.used,.bool f.dirty]))) p d ra ma own hnd pins (fs.set i (some { f with bs:=bs })) am none tx mo n g:=by
 obtain ⟨σ1,h1,h2,h3⟩:=h
 exact ⟨_,h1.put _ (h2.hf i f hi),h2.unpin hi hx,h3.away hk⟩
theorem PS.xa_ck (h:PS base σ p d ra ma own hnd pins fs am none tx mo n g) (hi:fs[i]? = some (some f)):f.xa≠0/\base f.xa=none:=by
 obtain ⟨σ1,h1,h2,h3⟩:=h
 have hz:=(h2.z4 i f hi).2 (by simp)
 exact ⟨fun e=>by rw [e] at hz;exact absurd (hz.symm.trans h3) (by simp),hz⟩
theorem first_at:∀ {l:List Nat} {v:Nat},v∈l->∃ i:Nat,l[i]? = some v/\∀ j,j<i->l[j]? ≠ some v
 | x::l,v,h=>by
   by_cases hx:x=v
   ·exact ⟨0,by rw [hx];rfl,fun j hj=>absurd hj (Nat.not_lt_zero _)⟩
   ·obtain ⟨i,h1,h2⟩:=first_at (l:=l) (v:=v) ((List.mem_cons.1 h).resolve_left fun e=>hx e.symm)
    refine ⟨i+1,h1,fun j hj=>?_⟩
    cases j with
    | zero=>intro e;injection e with e;exact hx e
    | succ j=>exact h2 j (by omega)
theorem xIdxI_no (k:SK) {l:List Nat} {v:Nat} (hl:l.length<=100000) (hn:v ∉ l):Pure Tryz.prog 55 [.sl k (kv .i64 l),.int .i64 v] (.int .i64 (-1)):=by
 intro σ
 have hkl:=kv_len .i64 l
 have hkg:=fun (i n:Nat) (h:l[i]? = some n)=>kv_get (k := .i64) h
 generalize kv .i64 l=KV at *
 refine a55 (by simp) ?_
 simp (disch:=first|assumption|omega|(simp only [List.length_append,List.length_cons,List.length_nil];omega)) only [go_sem,hkl]
 refine wp_loop_on (fun (j:Nat) a1 s2=>j<=l.length/\(a1 0 = .sl k KV/\a1 1 = .int .i64 v/\a1 7 = .int .i64 l.length/\a1 8 = .int .i64 j)/\s2=σ) (fun j=>l.length+1-j) 0 ⟨Nat.zero_le _,?_,rfl⟩ ?_
 ·simp (disch:=first|assumption|omega|(simp only [List.length_append,List.length_cons,List.length_nil];omega)) only [go_sem]
 rintro j a1 s2 ⟨hj,hf,rfl⟩
 by_cases hlt':j<l.length
 ·have hlt:(j:Int)<(l.length:Int):=by omega
  obtain ⟨x,hx⟩:∃ x,l[j]? = some x:=⟨_,List.getElem?_eq_getElem (by omega)⟩
  have hg:=hkg j x hx
  have hc:¬ v=x:=fun e=>hn (e▸List.mem_of_getElem? hx)
  have hc':¬ (v:Int)=(x:Int):=by omega
  simp (disch:=first|assumption|omega|(simp only [List.length_append,List.length_cons,List.length_nil];omega)) only [go_sem,hf,hlt,hg,Int.toNat_natCast,hc']
  exact ⟨j+1,by omega,by omega,rfl⟩
 ·have hlt:¬ (j:Int)<(l.length:Int):=by omega
  simp (disch:=first|assumption|omega|(simp only [List.length_append,List.length_cons,List.length_nil];omega)) only [go_sem,hf,hlt]
  exact retC_by (.refl _) (.refl _) ⟨rfl,rfl⟩
theorem contains_ok (k:SK) {l:List Nat} (hl:l.length<=100000) (v:Nat):Pure Tryz.prog 101 [.sl k (kv .i64 l),.int .i64 v] (.bool (decide (v∈l))):=by
 intro σ
 by_cases h:v∈l
 ·obtain ⟨i,h1,h2⟩:=first_at h
  have e:decide (v∈l)=true:=by simp [h]
  have i0:(0:Int)<=(i:Int):=by omega
  rw [e]
  refine a101 (by simp) ?_
  simp (disch:=first|assumption|omega|(simp only [List.length_append,List.length_cons,List.length_nil];omega)) only [go_sem]
  refine (xIdxI_ok k hl h1 h2).use ?_
  simp (disch:=first|assumption|omega|(simp only [List.length_append,List.length_cons,List.length_nil];omega)) only [go_sem,i0]
  exact retC_by (.refl _) (.refl _) ⟨rfl,rfl⟩
 ·have e:decide (v∈l)=false:=by simp [h]
  rw [e]
  refine a101 (by simp) ?_
  simp (disch:=first|assumption|omega|(simp only [List.length_append,List.length_cons,List.length_nil];omega)) only [go_sem]
  refine (xIdxI_no k hl h).use ?_
  simp (disch:=first|assumption|omega|(simp only [List.length_append,List.length_cons,List.length_nil];omega)) only [go_sem]
  exact retC_by (.refl _) (.refl _) ⟨rfl,rfl⟩
theorem OwnR.contains {σ0 σ σ2:ASt} {v:AV} {l:List Nat} (h:OwnR σ0 σ .i64 v l) (hl:l.length<=100000) (hs:∀ x r,σ x=some r->σ2 x=some r) (q:Nat) :
  ACalls Tryz.prog 101 [v,.int .i64 q] σ2 fun r σ'=>r = .bool (decide (q∈l))/\σ'=σ2:=by
 obtain ⟨kk,hz⟩:=(h.mono (σ':=σ2) fun X r _ hr=>hs X r hr).look (σ':=noRole) fun _ _=>rfl
 exact (contains_ok kk hl q).lend trivial (.cons hz (.cons (.refl _) .nil))
set_option maxHeartbeats 1000000 in
theorem plpin_ok (h:PoolAt base σ p m n pg) (hq:pg q=some s) :
  ACalls Tryz.prog 72 [.ptr p 0,.int .i64 q] σ fun v σ'=>∃ (fa xa c:Nat) (dirty:Bool),v = .tuple [.ptr fa 0,.int .i64 0]/\base xa=none/\xa≠0/\504<=c/\PinAt (base.set xa (some (.obj (bytesAV s)))) σ' p m n pg q fa xa c dirty:=by
 obtain ⟨base1,d,ra,ma,own,hand,fs,am,g,tx,ph,h1,hw,hh,hk,htx⟩:=h.open
 have hpq:=hq
 have hq:=htx.phys hpq
 obtain ⟨t,hg⟩:=hw.res hq
 have hhas:=pshas_ok h1 hg
 have hcn:ACalls Tryz.prog 101 [tx.gv,.int .i64 q] σ fun r σ'=>r = .bool false/\σ'=σ:=by
  obtain ⟨gn,g1,g2,g3⟩:=htx.gone (h1.few hw)
  have:=g1.contains (by omega) (fun x r=>h1.hb) q
  rwa [decide_eq_false (g3 q _ hpq)] at this
 have hgx:∀ {x:Nat},base1 x=none->base x=none:=fun {x} hx=>by
  cases hc:base x with
  | none=>rfl
  | some r=>rw [htx.1 x r hc] at hx;cases hx
 have hpn:pg q≠none:=by rw [hpq];simp
 have hp:=h1.hp
 have hm:=h1.hm
 have hr:=h1.hr
 cases ham:findM am (q:Int) with
 | some v=>
   obtain ⟨i,f,rfl,hi,hfq⟩:=hw.am2 q v ham
   have hfa:=h1.hf hi
   rw [pinV_none] at hfa
   have hbs:=hw.pg1 i f hi
   rw [hfq,hq] at hbs
   have hbs:=(Option.some.inj hbs).symm
   obtain ⟨hck,hz⟩:=h1.xa_ck hi
   have hil:i<fs.length:=(List.getElem?_eq_some_iff.1 hi).1
   have h2:=h1.pinned hi hck
   have hp2:=h2.hp
   have h3:=h2.setP hand 1 tx
   have hw3:=hw.flag hi true f.dirty (.inr (.inl rfl))
   have hfin:=PinAt.shut (ed:=false) h3 hw3 (by rw [List.length_set];exact hh) (by rw [List.length_set];exact hk) (List.getElem?_set_self hil) (h.ck.away hck) (fun h=>(by cases h)) (by rw [show ({ f with used:=true }:Frm).page=q from hfq];exact hpn) ((htx.set (some (.obj (bytesAV f.bs))) (.inr hz)).less fun q h=>(by cases h.1))
   dsimp only at hfin
   rw [List.length_set] at hp2 hfin
   have hget:=row_get (fs:=fs) hi
   have hv:frV (some f) = .ptr f.fa 0:=rfl
   rw [hv] at hget
   generalize fs.map frV=MR at *
   have i1:(i:Int)<(fs.length:Int):=by omega
   obtain ⟨s2,hs2⟩:∃ s2,s2=σ.set f.fa (some (.obj [.ptr p 0,.int .i64 f.page,.msl f.xa 0 504 f.c,.int .i64 1,.bool true,.bool f.dirty])):=⟨_,rfl⟩
   rw [<-hs2] at hp2 hfin
   refine a72 (by simp) ?_
   simp (disch:=first|assumption|omega|(simp only [List.length_append,List.length_cons,List.length_nil];omega)) only [go_sem,hp]
   refine hhas.mono ?_
   rintro v σ1 ⟨rfl,rfl⟩
   simp (disch:=first|assumption|omega|(simp only [List.length_append,List.length_cons,List.length_nil];omega)) only [go_sem,hp]
   refine hcn.mono ?_
   rintro v σ1 ⟨rfl,rfl⟩
   simp (disch:=first|assumption|omega|(simp only [List.length_append,List.length_cons,List.length_nil];omega)) only [go_sem,hp,hm,ham,Option.getD_some,Option.isSome_some,hr,hget,Int.toNat_natCast,Nat.zero_add,hfa]
   rw [<-hs2]
   simp (disch:=first|assumption|omega|(simp only [List.length_append,List.length_cons,List.length_nil];omega)) only [go_sem,hp2]
   refine retC_by (r := .tuple [.ptr f.fa 0,.int .i64 0]) (.refl _) (.refl _) ⟨f.fa,f.xa,f.c,false,rfl,hgx hz,hck,(hw.len i f hi).2,?_⟩
   rw [<-hbs,← hfq]
   exact hfin
 | none=>
   have hroom:=plroom_ok h1 hw hh hk
   have hnr:∀ (j:Nat) (k:Frm),fs[j]? = some (some k)->k.page≠q:=fun j k hj he=>by
    have:=hw.am1 j k hj
    rw [he,ham] at this;cases this
   refine a72 (by simp) ?_
   simp (disch:=first|assumption|omega|(simp only [List.length_append,List.length_cons,List.length_nil];omega)) only [go_sem,hp]
   refine hhas.mono ?_
   rintro v σ1 ⟨rfl,rfl⟩
   simp (disch:=first|assumption|omega|(simp only [List.length_append,List.length_cons,List.length_nil];omega)) only [go_sem,hp]
   refine hcn.mono ?_
   rintro v σ1 ⟨rfl,rfl⟩
   simp (disch:=first|assumption|omega|(simp only [List.length_append,List.length_cons,List.length_nil];omega)) only [go_sem,hp,hm,ham,Option.getD_none,Option.isSome_none]
   refine hroom.mono ?_
   rintro v σ2 ⟨i,hand',fs',am',g',rfl,hi,hl,hh',h2,hw2,hsm⟩
   have hnr2:∀ (j:Nat) (k:Frm),fs'[j]? = some (some k)->k.page≠q:=fun j k hj he=>by
    obtain ⟨k',h3,h4⟩:=hsm j k hj
    exact hnr j k' h3 (h4.trans he)
   have hg2:g' q=some s:=by rw [<-hw2.pg2 q hnr2];exact hq
   have hp2:=h2.hp
   have hrd:=psread_ok h2 hg2
   have hsl:s.length=504:=h.slen hpq
   simp (disch:=first|assumption|omega|(simp only [List.length_append,List.length_cons,List.length_nil];omega)) only [go_sem,hp2]
   refine hrd.mono ?_
   rintro v σ3 ⟨rfl,h3⟩
   have hly:=pllay_ok (q:=q) h3 hi hsl (by omega)
   simp (disch:=first|assumption|omega|(simp only [List.length_append,List.length_cons,List.length_nil];omega)) only [go_sem]
   refine hly.mono ?_
   rintro v σ4 ⟨f,own',rfl,hfq,hfb,hfd,hfc,hz,h4⟩
   have hzb:base1 f.xa=none:=by
    cases hc:base1 f.xa with
    | none=>rfl
    | some r=>rw [h3.hb hc] at hz;cases hz
   have hck:f.xa≠0:=fun e=>by rw [e,h3.hb h3.ckT] at hz;cases hz
   have hil:i<fs'.length:=(List.getElem?_eq_some_iff.1 hi).1
   have hw4:=hw2.lay (f:=f) hi (by rw [hfq,hfb];exact hq) (by rw [hfq,hfb];exact hg2) (by rw [hfq];exact hnr2) ⟨by rw [hfb];exact hsl,hfc⟩
   rw [hfq] at hw4
   have hfin:=PinAt.shut (ed:=false) h4 hw4 (by rw [List.length_set];exact hh') (by rw [List.length_set];omega) (List.getElem?_set_self hil) (h.ck.away hck) (fun h=>(by cases h)) (by rw [hfq];exact hpn) ((htx.set (some (.obj (bytesAV f.bs))) (.inr hzb)).less fun q h=>(by cases h.1))
   rw [hfq,hfb] at hfin
   simp (disch:=first|assumption|omega|(simp only [List.length_append,List.length_cons,List.length_nil];omega)) only [go_sem]
   exact retC_by (.refl _) (.refl _) ⟨f.fa,f.xa,f.c,false,rfl,hgx hzb,hck,hfc,hfin⟩
end
end Go.A
namespace Go.A
open Go.Proofs
/-! 30: (*tabular/pool.Pool).Take -/
def c30_24:ACode := .seq (.ops [ oq 2 (.mv (.v .nilp)),oq 3 (.mv (.v (.int .i64 0)))]) (.seq (.ops [ oq 8 (.mv (.t 0)),oe 9 (.call 87 [(.t 8)]),oq 7 (.mv (.t 9)),oq 10 (.ext 0 (.t 7)),oq 11 (.ext 1 (.t 7)),oq 4 (.mv (.t 10)),oq 5 (.mv (.t 11))]) (.seq (.seq (.ops [ oq 12 (.mv (.t 5)),oq 13 (.bin .neq (.t 12) (.v (.int .i64 0)))]) (.cond (.t 13) (.seq (.ops [ oq 14 (.mv (.t 5)),oq 2 (.mv (.v .nilp)),oq 3 (.mv (.t 14))]) .ret) .skip)) (.seq (.ops [ oq 16 (.mv (.t 0)),oq 17 (.nc (.t 16)),oq 18 (.fa 0 (.t 17)),oq 19 (.ld none (.t 18)),oe 20 (.call 24 [(.t 19)]),oq 15 (.mv (.t 20)),oq 21 (.ext 0 (.t 15)),oq 22 (.ext 1 (.t 15)),oq 6 (.mv (.t 21)),oq 5 (.mv (.t 22))]) (.seq (.seq (.ops [ oq 23 (.mv (.t 5)),oq 24 (.bin .neq (.t 23) (.v (.int .i64 0)))]) (.cond (.t 24) (.seq (.ops [ oq 25 (.mv (.t 5)),oq 2 (.mv (.v .nilp)),oq 3 (.mv (.t 25))]) .ret) .skip)) (.seq (.seq (.ops [ oq 26 (.mv (.t 0)),oq 27 (.nc (.t 26)),oq 28 (.fa 5 (.t 27)),oq 29 (.ld none (.t 28))]) (.cond (.t 29) (.ops [ oq 30 (.mv (.t 0)),oq 31 (.mv (.t 0)),oq 32 (.nc (.t 31)),oq 33 (.fa 7 (.t 32)),oq 34 (.ld none (.t 33)),oq 35 (.mv (.t 6)),oq 36 (.bslv 1 [(.t 35)]),oe 37 (.app 3 1 8 [(.int .i64 0)] (.t 34) (.t 36)),oq 38 (.nc (.t 30)),oq 39 (.fa 7 (.t 38)),oz (.store 1 (.t 39) (.t 37))]) .skip)) (.seq (.ops [ oq 40 (.mv (.t 0)),oq 41 (.mv (.t 4)),oq 42 (.mv (.t 6)),oe 43 (.mks 5 1 (.int .u8 0) (.v (.int .i64 504)) (.v (.int .i64 504))),oq 44 (.b2s (.t 43)),oe 45 (.call 88 [(.t 40),(.t 41),(.t 42),(.t 44)]),oq 2 (.mv (.t 45)),oq 3 (.mv (.v (.int .i64 0)))]) .ret))))))
@[go_sem] def c30_24_wp:=wp_of c30_24.eq_1
def c30:AFn:=⟨46,[.t 2,.t 3],c30_24⟩
theorem c30_ok:compF Tryz.prog Tryz.f30=some c30:=by kernel_rfl
theorem a30 {args:List AV} {σ:ASt} {R:AV->ASt->Prop} (hl:args.length<=46) (h:c30_24.wp Tryz.prog (RetQ [.t 2,.t 3] R) (init args) σ):ACalls Tryz.prog 30 args σ R:=acalls_of Tryz.func30 c30_ok hl h
/-! 31: (*tabular/pool.Frame).Unpin -/
def c31_5:ACode := .seq (.ops [ oq 2 (.mv (.t 0)),oq 3 (.nc (.t 2)),oq 4 (.fa 3 (.t 3)),oq 5 (.ld none (.t 4)),oq 6 (.bin .gtr (.t 5) (.v (.int .i64 0)))]) (.cond (.t 6) (.seq (.ops [ oq 7 (.mv (.t 0)),oq 8 (.nc (.t 7)),oq 9 (.fa 3 (.t 8)),oq 10 (.ld none (.t 9)),oq 11 (.bin .sub (.t 10) (.v (.int .i64 1))),oq 12 (.nc (.t 7)),oq 13 (.fa 3 (.t 12)),oz (.store 1 (.t 13) (.t 11))]) (.ops [ oq 14 (.mv (.t 0)),oq 15 (.nc (.t 14)),oq 16 (.fa 0 (.t 15)),oq 17 (.ld none (.t 16)),oq 18 (.nc (.t 17)),oq 19 (.fa 4 (.t 18)),oq 20 (.ld none (.t 19)),oq 21 (.bin .sub (.t 20) (.v (.int .i64 1))),oq 22 (.nc (.t 17)),oq 23 (.fa 4 (.t 22)),oz (.store 1 (.t 23) (.t 21))])) .skip)
@[go_sem] def c31_5_wp:=wp_of c31_5.eq_1
def c31:AFn:=⟨24,[],c31_5⟩
theorem c31_ok:compF Tryz.prog Tryz.f31=some c31:=by kernel_rfl
theorem a31 {args:List AV} {σ:ASt} {R:AV->ASt->Prop} (hl:args.length<=24) (h:c31_5.wp Tryz.prog (RetQ [] R) (init args) σ):ACalls Tryz.prog 31 args σ R:=acalls_of Tryz.func31 c31_ok hl h
theorem d31 {args:List AV} {σ:ASt} {R:AV->ASt->Prop} (hl:args.length<=24) (h:c31_5.wp Tryz.prog (fun e _ σ'=>(∀ i,e ≠ .exit i)/\R (.tuple []) σ') (init args) σ):ADefer Tryz.prog 31 args σ R:=adefer_of (R:=R) Tryz.func31 c31_ok rfl rfl hl h
/-! 32: (*tabular/pool.Frame).Page -/
def c32_3:ACode := .seq (.ops [ oq 2 (.mv (.v (.int .i64 0)))]) (.seq (.ops [ oq 3 (.mv (.t 0)),oq 4 (.nc (.t 3)),oq 5 (.fa 1 (.t 4)),oq 6 (.ld none (.t 5)),oq 2 (.mv (.t 6))]) .ret)
@[go_sem] def c32_3_wp:=wp_of c32_3.eq_1
def c32:AFn:=⟨7,[.t 2],c32_3⟩
theorem c32_ok:compF Tryz.prog Tryz.f32=some c32:=by kernel_rfl
theorem a32 {args:List AV} {σ:ASt} {R:AV->ASt->Prop} (hl:args.length<=7) (h:c32_3.wp Tryz.prog (RetQ [.t 2] R) (init args) σ):ACalls Tryz.prog 32 args σ R:=acalls_of Tryz.func32 c32_ok hl h
/-! 34: (*tabular/pool.Frame).Edit -/
def c34_7:ACode := .seq (.ops [ oq 2 (.mv (.v (.sl .full [])))]) (.seq (.ops [ oq 3 (.mv (.t 0)),oq 4 (.nc (.t 3)),oq 5 (.fa 0 (.t 4)),oq 6 (.ld none (.t 5)),oq 7 (.mv (.t 0)),oe 8 (.call 90 [(.t 6),(.t 7)])]) (.seq (.ops [ oq 9 (.mv (.t 0)),oq 10 (.nc (.t 9)),oq 11 (.fa 5 (.t 10)),oz (.store 1 (.t 11) (.v (.bool true)))]) (.seq (.ops [ oq 12 (.mv (.t 0)),oq 13 (.nc (.t 12)),oq 14 (.fa 2 (.t 13)),oq 15 (.ld none (.t 14)),oq 2 (.mv (.t 15))]) .ret)))
@[go_sem] def c34_7_wp:=wp_of c34_7.eq_1
def c34:AFn:=⟨16,[.t 2],c34_7⟩
theorem c34_ok:compF Tryz.prog Tryz.f34=some c34:=by kernel_rfl
theorem a34 {args:List AV} {σ:ASt} {R:AV->ASt->Prop} (hl:args.length<=16) (h:c34_7.wp Tryz.prog (RetQ [.t 2] R) (init args) σ):ACalls Tryz.prog 34 args σ R:=acalls_of Tryz.func34 c34_ok hl h
/-! 44: (*tabular/pool.Pool).Give -/
def c44_35:ACode := .seq (.ops [ oq 4 (.mv (.v (.int .i64 0)))]) (.seq (.seq (.ops [ oq 9 (.mv (.t 0)),oq 10 (.nc (.t 9)),oq 11 (.fa 2 (.t 10)),oq 12 (.ld none (.t 11)),oq 13 (.mv (.t 1)),oq 14 (.mget (.t 12) (.t 13)),oq 8 (.mv (.t 14)),oq 15 (.ext 0 (.t 8)),oq 16 (.ext 1 (.t 8)),oq 5 (.mv (.t 15)),oq 6 (.mv (.t 16))]) (.seq (.ops [ oq 17 (.mv (.t 6)),oq 18 (.mv (.t 17)),⟨some 19,some (18,true),.q (.mv (.t 0)),[]⟩,⟨some 20,some (18,true),.q (.nc (.t 19)),[]⟩,⟨some 21,some (18,true),.q (.fa 1 (.t 20)),[]⟩,⟨some 22,some (18,true),.q (.ld none (.t 21)),[]⟩,⟨some 23,some (18,true),.q (.mv (.t 5)),[]⟩,⟨some 24,some (18,true),.q (.ia 1 (.t 22) (.t 23)),[]⟩,⟨some 25,some (18,true),.q (.ld none (.t 24)),[]⟩,⟨some 26,some (18,true),.q (.nc (.t 25)),[]⟩,⟨some 27,some (18,true),.q (.fa 3 (.t 26)),[]⟩,⟨some 28,some (18,true),.q (.ld none (.t 27)),[]⟩,⟨some 29,some (18,true),.q (.bin .gtr (.t 28) (.v (.int .i64 0))),[]⟩,oq 30 (.pick (.t 18) (.t 29) (.v (.bool false)))]) (.cond (.t 30) (.seq (.ops [ oq 4 (.mv (.v (.int .i64 14)))]) .ret) .skip))) (.seq (.seq (.ops [ oq 31 (.mv (.t 0)),oq 32 (.nc (.t 31)),oq 33 (.fa 0 (.t 32)),oq 34 (.ld none (.t 33)),oq 35 (.mv (.t 1)),oe 36 (.call 100 [(.t 34),(.t 35)]),oq 37 (.un .not (.t 36)),oq 38 (.mv (.t 37)),⟨some 39,some (38,false),.q (.mv (.t 0)),[]⟩,⟨some 40,some (38,false),.q (.nc (.t 39)),[]⟩,⟨some 41,some (38,false),.q (.fa 8 (.t 40)),[]⟩,⟨some 42,some (38,false),.q (.ld none (.t 41)),[]⟩,⟨some 43,some (38,false),.q (.mv (.t 1)),[]⟩,⟨some 44,some (38,false),.e (.call 101 [(.t 42),(.t 43)]),[]⟩,oq 45 (.pick (.t 38) (.v (.bool true)) (.t 44))]) (.cond (.t 45) (.seq (.ops [ oq 4 (.mv (.v (.int .i64 4)))]) .ret) .skip)) (.seq (.seq (.ops [ oq 46 (.mv (.t 0)),oq 47 (.nc (.t 46)),oq 48 (.fa 5 (.t 47)),oq 49 (.ld none (.t 48))]) (.cond (.t 49) (.seq (.ops [ oq 50 (.mv (.t 0)),oq 51 (.mv (.t 0)),oq 52 (.nc (.t 51)),oq 53 (.fa 8 (.t 52)),oq 54 (.ld none (.t 53)),oq 55 (.mv (.t 1)),oq 56 (.bslv 1 [(.t 55)]),oe 57 (.app 3 1 8 [(.int .i64 0)] (.t 54) (.t 56)),oq 58 (.nc (.t 50)),oq 59 (.fa 8 (.t 58)),oz (.store 1 (.t 59) (.t 57))]) (.seq (.ops [ oq 4 (.mv (.v (.int .i64 0)))]) .ret)) .skip)) (.seq (.seq (.ops [ oq 60 (.mv (.t 0)),oq 61 (.nc (.t 60)),oq 62 (.fa 0 (.t 61)),oq 63 (.ld none (.t 62)),oq 64 (.mv (.t 1)),oe 65 (.call 102 [(.t 63),(.t 64)]),oq 7 (.mv (.t 65))]) (.seq (.ops [ oq 66 (.mv (.t 7)),oq 67 (.bin .neq (.t 66) (.v (.int .i64 0)))]) (.cond (.t 67) (.seq (.ops [ oq 68 (.mv (.t 7)),oq 4 (.mv (.t 68))]) .ret) .skip))) (.seq (.ops [ oq 69 (.mv (.t 0)),oq 70 (.mv (.t 1)),oe 71 (.call 103 [(.t 69),(.t 70)])]) (.seq (.ops [ oq 4 (.mv (.v (.int .i64 0)))]) .ret))))))
@[go_sem] def c44_35_wp:=wp_of c44_35.eq_1
def c44:AFn:=⟨72,[.t 4],c44_35⟩
theorem c44_ok:compF Tryz.prog Tryz.f44=some c44:=by kernel_rfl
theorem a44 {args:List AV} {σ:ASt} {R:AV->ASt->Prop} (hl:args.length<=72) (h:c44_35.wp Tryz.prog (RetQ [.t 4] R) (init args) σ):ACalls Tryz.prog 44 args σ R:=acalls_of Tryz.func44 c44_ok hl h
/-! 50: (*tabular/pool.Frame).Bytes -/
def c50_3:ACode := .seq (.ops [ oq 2 (.mv (.v (.sl .full [])))]) (.seq (.ops [ oq 3 (.mv (.t 0)),oq 4 (.nc (.t 3)),oq 5 (.fa 2 (.t 4)),oq 6 (.ld none (.t 5)),oq 2 (.mv (.t 6))]) .ret)
@[go_sem] def c50_3_wp:=wp_of c50_3.eq_1
def c50:AFn:=⟨7,[.t 2],c50_3⟩
theorem c50_ok:compF Tryz.prog Tryz.f50=some c50:=by kernel_rfl
theorem a50 {args:List AV} {σ:ASt} {R:AV->ASt->Prop} (hl:args.length<=7) (h:c50_3.wp Tryz.prog (RetQ [.t 2] R) (init args) σ):ACalls Tryz.prog 50 args σ R:=acalls_of Tryz.func50 c50_ok hl h
/-! 90: (*tabular/pool.Pool).keep -/
def c90_9:ACode := .seq (.seq (.ops [ oq 6 (.mv (.t 0)),oq 7 (.nc (.t 6)),oq 8 (.fa 5 (.t 7)),oq 9 (.ld none (.t 8)),oq 10 (.un .not (.t 9)),oq 11 (.mv (.t 10)),⟨some 12,some (11,false),.q (.mv (.t 0)),[]⟩,⟨some 13,some (11,false),.q (.nc (.t 12)),[]⟩,⟨some 14,some (11,false),.q (.fa 7 (.t 13)),[]⟩,⟨some 15,some (11,false),.q (.ld none (.t 14)),[]⟩,⟨some 16,some (11,false),.q (.mv (.t 1)),[]⟩,⟨some 17,some (11,false),.q (.nc (.t 16)),[]⟩,⟨some 18,some (11,false),.q (.fa 1 (.t 17)),[]⟩,⟨some 19,some (11,false),.q (.ld none (.t 18)),[]⟩,⟨some 20,some (11,false),.e (.call 101 [(.t 15),(.t 19)]),[]⟩,oq 21 (.pick (.t 11) (.v (.bool true)) (.t 20))]) (.cond (.t 21) .ret .skip)) (.seq (.ops [ oq 23 (.mv (.t 0)),oq 24 (.nc (.t 23)),oq 25 (.fa 6 (.t 24)),oq 26 (.ld none (.t 25)),oq 27 (.mv (.t 1)),oq 28 (.nc (.t 27)),oq 29 (.fa 1 (.t 28)),oq 30 (.ld none (.t 29)),oq 31 (.mgets true (.t 26) (.t 30)),oq 22 (.mv (.t 31)),oq 32 (.ext 0 (.t 22)),oq 33 (.ext 1 (.t 22)),oq 4 (.mv (.t 32)),oq 5 (.mv (.t 33))]) (.seq (.ops [ oq 34 (.mv (.t 5)),oq 35 (.un .not (.t 34))]) (.cond (.t 35) (.ops [ oq 36 (.mv (.t 0)),oq 37 (.nc (.t 36)),oq 38 (.fa 6 (.t 37)),oq 39 (.ld none (.t 38)),oq 40 (.mv (.t 1)),oq 41 (.nc (.t 40)),oq 42 (.fa 1 (.t 41)),oq 43 (.ld none (.t 42)),oq 44 (.mv (.t 1)),oq 45 (.nc (.t 44)),oq 46 (.fa 2 (.t 45)),oq 47 (.ld none (.t 46)),oq 48 (.b2s (.t 47)),oz (.msets (.t 39) (.t 43) (.t 48))]) .skip)))
@[go_sem] def c90_9_wp:=wp_of c90_9.eq_1
def c90:AFn:=⟨49,[],c90_9⟩
theorem c90_ok:compF Tryz.prog Tryz.f90=some c90:=by kernel_rfl
theorem a90 {args:List AV} {σ:ASt} {R:AV->ASt->Prop} (hl:args.length<=49) (h:c90_9.wp Tryz.prog (RetQ [] R) (init args) σ):ACalls Tryz.prog 90 args σ R:=acalls_of Tryz.func90 c90_ok hl h
end Go.A
namespace Go.A
open Go.Proofs
section
variable {base base1 σ:ASt} {p d ra ma n hand page fa xa c:Nat} {own:Nat->Nat} {pins hnd:Int} {fs:List (Option Frm)} {am:List (Int×Int)} {pin:Option Nat} {tx:TxV} {mo:Int} {m:PX} {g ph pg:Pgs} {ed:Bool} {i q:Nat} {f:Frm} {s t:List UInt8} {dirty:Bool}
theorem TxAt.wrote {old:Option Pgs} {bs:List UInt8} (h:TxAt base base1 tx old ph pg fun q=>ed=true/\q=page) (hd:ed=true\/pg page=some bs) (hg:pg page≠none):TxAt base base1 tx old (pset ph page (some bs)) (pset pg page (some bs)) fun _=>False:=by
 have hph:∀ s,pg page=some s->ph page=some s:=fun s=>h.phys
 obtain ⟨h1,h2⟩:=h
 refine ⟨h1,?_⟩
 cases old with
 | none=>
   obtain ⟨h3,h4⟩:=h2
   exact ⟨h3,by rw [h4]⟩
 | some o=>
   obtain ⟨wb,wl,md,gn,mv,gv,h3,h4,h5,h6⟩:=h2
   refine ⟨wb,wl,md,gn,mv,gv,h3,h4,?_,fun q hq=>hq.elim⟩
   have hgn:page ∉ gn:=fun hc=>hg (by rw [h5.vw page,if_pos hc])
   by_cases he:ed=true
   ·exact h5.wrote (h6 page ⟨he,rfl⟩) hgn bs
   ·have hb:=hd.resolve_left he
    have e1:pset pg page (some bs)=pg:=by
     funext r
     unfold pset
     split
     ·rename_i hr;rw [hr,hb]
     ·rfl
    have e2:pset ph page (some bs)=ph:=by
     funext r
     unfold pset
     split
     ·rename_i hr;rw [hr,hph _ hb]
     ·rfl
    rw [e1,e2];exact h5
theorem PinAt.unpin (h:PinAt base σ p m n pg page fa xa c dirty) {bs:List UInt8} (hx:base xa=some (.obj (bytesAV bs))) (hb:bs.length=504) (hd:dirty=true\/pg page=some bs) (hk:xa≠0) :
  ∃ d ra ma hand k u y x1 x2 x3 x4,σ fa=some (.obj [.ptr p 0,.int .i64 page,.msl xa 0 504 c,.int .i64 1,.bool u,.bool y])/\σ p=some (.obj [.ptr d 0,.msl ra 0 k k,.map (some ma),.int .i64 hand,.int .i64 1,.bool x1,x2,x3,x4])/\p≠fa ∧
   PoolAt (base.set xa none) ((σ.set fa (some (.obj [.ptr p 0,.int .i64 page,.msl xa 0 504 c,.int .i64 0,.bool u,.bool y]))).set p (some (.obj [.ptr d 0,.msl ra 0 k k,.map (some ma),.int .i64 hand,.int .i64 0,.bool x1,x2,x3,x4]))) p m n (pset pg page (some bs)):=by
 have hcb:=h.ck
 obtain ⟨base1,d,ra,ma,own,hand,fs,am,g,tx,ph,i,f,h1,hw,hh,hl,hi,rfl,rfl,rfl,rfl,hdd,hg,ht⟩:=h.open
 have hfa:=h1.hf hi
 have e1:pinV (some i) i=1:=if_pos rfl
 rw [e1] at hfa
 have hil:i<fs.length:=(List.getElem?_eq_some_iff.1 hi).1
 have h2:=h1.unpin hi hk (ht.1 _ _ hx)
 have h3:=h2.setP hand 0 tx
 rw [List.length_set] at h3
 have hd':f.dirty=true\/bs=f.bs:=hd.imp hdd fun h=>by
  have:=hw.pg1 i f hi
  rw [ht.phys h] at this
  exact Option.some.inj this
 have hw2:=hw.bytes hi hb hd'
 refine ⟨d,ra,ma,hand,fs.length,f.used,f.dirty,tx.op,tx.wv,tx.mv,tx.gv,hfa,h1.hp,fun e=>?_,PoolAt.shut h3 hw2 (by rw [List.length_set];exact hh) (by rw [List.length_set];exact hl) (hcb.away hk) ((ht.wrote hd hg).set none (.inl (by rw [hx];simp)))⟩
 have:=h1.hp
 rw [e,hfa] at this
 simp at this
theorem plunpin_ok (h:PinAt base σ p m n pg page fa xa c dirty) {bs:List UInt8} (hx:base xa=some (.obj (bytesAV bs))) (hb:bs.length=504) (hd:dirty=true\/pg page=some bs) (hk:xa≠0) :
  ACalls Tryz.prog 31 [.ptr fa 0] σ fun v σ'=>v = .tuple []/\PoolAt (base.set xa none) σ' p m n (pset pg page (some bs)):=by
 obtain ⟨d,ra,ma,hand,k,u,y,x1,x2,x3,x4,hfa,hp,hne,hfin⟩:=h.unpin hx hb hd hk
 refine a31 (by simp) ?_
 simp (disch:=first|assumption|omega|(simp only [List.length_append,List.length_cons,List.length_nil];omega)) only [go_sem,hfa,hp]
 exact retC_by (.refl _) (.refl _) ⟨rfl,hfin⟩
theorem plunpin_d (h:PinAt base σ p m n pg page fa xa c dirty) {bs:List UInt8} (hx:base xa=some (.obj (bytesAV bs))) (hb:bs.length=504) (hd:dirty=true\/pg page=some bs) (hk:xa≠0) :
  ADefer Tryz.prog 31 [.ptr fa 0] σ fun v σ'=>v = .tuple []/\PoolAt (base.set xa none) σ' p m n (pset pg page (some bs)):=by
 obtain ⟨d,ra,ma,hand,k,u,y,x1,x2,x3,x4,hfa,hp,hne,hfin⟩:=h.unpin hx hb hd hk
 refine d31 (by simp) ?_
 simp (disch:=first|assumption|omega|(simp only [List.length_append,List.length_cons,List.length_nil];omega)) only [go_sem,hfa,hp]
 first|exact hfin|exact ⟨fun i h=>(by cases h),rfl,hfin⟩
theorem PinAt.fa_at (h:PinAt base σ p m n pg page fa xa c dirty):∃ u y,σ fa=some (.obj [.ptr p 0,.int .i64 page,.msl xa 0 504 c,.int .i64 1,.bool u,.bool y]):=by
 obtain ⟨base1,d,ra,ma,own,hand,fs,am,g,tx,ph,i,f,h1,hw,hh,hl,hi,rfl,rfl,rfl,rfl,hdd,hg,ht⟩:=h.open
 have hfa:=h1.hf hi
 have e1:pinV (some i) i=1:=if_pos rfl
 rw [e1] at hfa
 exact ⟨_,_,hfa⟩
theorem plbytes_ok (h:PinAt base σ p m n pg page fa xa c dirty):ACalls Tryz.prog 50 [.ptr fa 0] σ fun v σ'=>v = .msl xa 0 504 c/\σ'=σ:=by
 obtain ⟨u,y,hfa⟩:=h.fa_at
 refine a50 (by simp) ?_
 simp (disch:=first|assumption|omega|(simp only [List.length_append,List.length_cons,List.length_nil];omega)) only [go_sem,hfa]
 exact retC_by (.refl _) (.refl _) ⟨rfl,rfl⟩
theorem plpage_ok (h:PinAt base σ p m n pg page fa xa c dirty):ACalls Tryz.prog 32 [.ptr fa 0] σ fun v σ'=>v = .int .i64 page/\σ'=σ:=by
 obtain ⟨u,y,hfa⟩:=h.fa_at
 refine a32 (by simp) ?_
 simp (disch:=first|assumption|omega|(simp only [List.length_append,List.length_cons,List.length_nil];omega)) only [go_sem,hfa]
 exact retC_by (.refl _) (.refl _) ⟨rfl,rfl⟩
set_option maxHeartbeats 1000000 in
theorem plkeep_ok {old:Option Pgs} {bs:List UInt8} (h:PS base1 σ p d ra ma own hnd pins fs am (some i) tx mo n g) (hw:PW fs am g ph) (hi:fs[i]? = some (some f)) (ht:TxAt base base1 tx old ph pg fun q=>ed=true/\q=f.page)
  (hx:base f.xa=some (.obj (bytesAV bs))) (hb:bs.length=504) (hd:ed=true\/pg f.page=some bs) :
  ACalls Tryz.prog 90 [.ptr p 0,.ptr f.fa 0] σ fun v σ'=>v = .tuple []/\∃ base1',PS base1' σ' p d ra ma own hnd pins fs am (some i) tx mo n g/\TxAt base base1' tx old ph pg fun q=>q=f.page:=by
 have hp:=h.hp
 have hfa:=h.hf hi
 obtain ⟨hbl,hcl⟩:=hw.len i f hi
 have hxs:=h.hb (ht.1 _ _ hx)
 cases old with
 | none=>
   obtain ⟨h1,rfl,h2⟩:=ht
   dsimp only at hp
   refine a90 (by simp) ?_
   simp (disch:=first|assumption|omega|(simp only [List.length_append,List.length_cons,List.length_nil];omega)) only [go_sem,hp]
   exact retC_by (.refl _) (.refl _) ⟨rfl,base1,h,h1,rfl,h2⟩
 | some o=>
   have htp:∀ s,pg f.page=some s->ph f.page=some s:=fun s=>ht.phys
   obtain ⟨h1,wb,wl,md,gn,mv,gv,rfl,h2,h3,h4⟩:=ht
   dsimp only at hp
   have hfew:=h3.few (h.few hw)
   have hcn:=h2.hm.contains (by omega) (fun x r=>h.hb) f.page
   have hwb:=h.hb h2.hw
   by_cases hm:f.page∈md
   ·rw [decide_eq_true hm] at hcn
    refine a90 (by simp) ?_
    simp (disch:=first|assumption|omega|(simp only [List.length_append,List.length_cons,List.length_nil];omega)) only [go_sem,hp,hfa]
    refine hcn.mono ?_
    rintro v σ1 ⟨rfl,rfl⟩
    simp (disch:=first|assumption|omega|(simp only [List.length_append,List.length_cons,List.length_nil];omega)) only [go_sem]
    exact retC_by (.refl _) (.refl _) ⟨rfl,base1,h,h1,wb,wl,md,gn,mv,gv,rfl,h2,h3,fun q hq => .inl (hq▸hm)⟩
   ·rw [decide_eq_false hm] at hcn
    cases hf:findM wl (f.page:Int) with
    | some s=>
      refine a90 (by simp) ?_
      simp (disch:=first|assumption|omega|(simp only [List.length_append,List.length_cons,List.length_nil];omega)) only [go_sem,hp,hfa]
      refine hcn.mono ?_
      rintro v σ1 ⟨rfl,rfl⟩
      simp (disch:=first|assumption|omega|(simp only [List.length_append,List.length_cons,List.length_nil];omega)) only [go_sem,hp,hfa,hwb,hf,Option.getD_some,Option.isSome_some]
      exact retC_by (.refl _) (.refl _) ⟨rfl,base1,h,h1,wb,wl,md,gn,mv,gv,rfl,h2,h3,fun q hq => .inr (by rw [hq,hf];rfl)⟩
    | none=>
      have hpb:pg f.page=some bs:=hd.resolve_left fun he=>by
       rcases h4 f.page ⟨he,rfl⟩ with h5|h5
       ·exact hm h5
       ·rw [hf] at h5;cases h5
      have hbk:wb≠0:=fun e=>by
       have:=h2.hw
       rw [e,h.ckT] at this
       cases this
      have hput:=h.put (x:=wb) (.maps (putM wl (f.page:Int) bs)) (.inl (by rw [h2.hw];simp)) hbk
      have h3':=h3.keep hm hf (htp _ hpb) hb
      have hl:504<=bs.length:=by omega
      have htk:(bytesAV bs).take 504=bytesAV bs:=List.take_of_length_le (by rw [kbytes_len];omega)
      have hne:∀ {v:AV} {l:List Nat},OwnR base base1 .i64 v l->blkV v≠some wb:=fun {v l} ho he=>by
       obtain ⟨⟨cs,h5⟩,_⟩:=ho.blk he
       rw [h2.hw] at h5;cases h5
      refine a90 (by simp) ?_
      simp (disch:=first|assumption|omega|(simp only [List.length_append,List.length_cons,List.length_nil];omega)) only [go_sem,hp,hfa]
      refine hcn.mono ?_
      rintro v σ1 ⟨rfl,rfl⟩
      simp (disch:=first|assumption|omega|(simp only [List.length_append,List.length_cons,List.length_nil];omega)) only [go_sem,hp,hfa,hwb,hf,Option.getD_none,Option.isSome_none,hxs,hl,htk,List.drop_zero,Nat.zero_add]
      refine retC_by (.refl _) (.refl _) ⟨rfl,_,hput,fun y r hy=>?_,wb,_,md,gn,mv,gv,rfl,⟨ASt.set_same _ _ _,h2.zw,h2.hm.set (hne h2.hm),h2.hg.set (hne h2.hg),h2.dj⟩,h3',fun q hq => .inr ?_⟩
      ·have hyw:y≠wb:=fun e=>by rw [e,h2.zw] at hy;cases hy
       rw [ASt.set_ne hyw];exact h1 y r hy
      ·rw [hq,findM_put,if_pos rfl];rfl
theorem pledit_ok (h:PinAt base σ p m n pg page fa xa c dirty) {bs:List UInt8} (hx:base xa=some (.obj (bytesAV bs))) (hb:bs.length=504) (hd:dirty=true\/pg page=some bs):ACalls Tryz.prog 34 [.ptr fa 0] σ fun v σ'=>v = .msl xa 0 504 c/\PinAt base σ' p m n pg page fa xa c true:=by
 have hcb:=h.ck
 obtain ⟨base1,d,ra,ma,own,hand,fs,am,g,tx,ph,i,f,h1,hw,hh,hl,hi,rfl,rfl,rfl,rfl,hdd,hg,ht⟩:=h.open
 have hk:=plkeep_ok h1 hw hi ht hx hb hd
 have hfa:=h1.hf hi
 have hil:i<fs.length:=(List.getElem?_eq_some_iff.1 hi).1
 refine a34 (by simp) ?_
 simp (disch:=first|assumption|omega|(simp only [List.length_append,List.length_cons,List.length_nil];omega)) only [go_sem,hfa]
 refine hk.mono ?_
 rintro v σ1 ⟨rfl,base1',h2,ht2⟩
 have hfa2:=h2.hf hi
 have h3:=h2.setF hi f.used true
 have hw2:=hw.flag hi f.used true (.inl rfl)
 have e1:pinV (some i) i=1:=if_pos rfl
 rw [e1] at hfa2 h3
 have hfin:=PinAt.shut (ed:=true) h3 hw2 (by rw [List.length_set];exact hh) (by rw [List.length_set];exact hl) (List.getElem?_set_self hil) hcb (fun _=>rfl) hg (ht2.less fun q hq=>hq.2)
 dsimp only at hfin
 simp (disch:=first|assumption|omega|(simp only [List.length_append,List.length_cons,List.length_nil];omega)) only [go_sem,hfa2]
 exact retC_by (.refl _) (.refl _) ⟨rfl,hfin⟩
theorem PS.row {old:Option Pgs} {kp:Nat->Prop} {wb:Nat} {wl:List (Int×List UInt8)} {md gn:List Nat} {mv gv v v':AV} {l:List Nat} {X:Nat} {r:Role} {b1:Bool}
  (h:PS base1 σ p d ra ma own hnd pins fs am pin tx mo n g) (hO:TxO base base1 wb wl mv md gv gn) (ho:OwnR base base1 .i64 v l) (hX:blkV v=some X\/σ X=none) :
  (base1 X≠none\/σ X=none)/\X≠0/\X≠wb:=by
 have key:∀ {r:Role} {y:Nat},base1 y=some r->(∀ cs,r ≠ .obj cs)->X≠y:=fun {r y} hy hr e=>by
  subst e
  rcases hX with hX|hX
  ·obtain ⟨⟨cs,h5⟩,_⟩:=ho.blk hX
   rw [hy] at h5
   injection h5 with h5
   exact hr cs h5
  ·rw [h.hb hy] at hX;cases hX
 refine ⟨?_,key h.ckT (by simp),key hO.hw (by simp)⟩
 rcases hX with hX|hX
 ·obtain ⟨⟨cs,h5⟩,_⟩:=ho.blk hX
  exact .inl (by rw [h5];simp)
 ·exact .inr hX
theorem OwnR.at_base {v v':AV} {l:List Nat} {X:Nat} {r:Role} (h:OwnR base (σ.set X (some r)) .i64 v l) (hv:blkV v=some X):OwnR base (base1.set X (some r)) .i64 v l:=
 h.mono fun Y q hY hq=>by
  rw [hv] at hY
  injection hY with hY
  subst hY
  rw [ASt.set_same] at hq ⊢
  exact hq
theorem blkV_msl {v:AV} {X:Nat} (h:blkV v=some X):∃ o n c,v = .msl X o n c:=by
 cases v<;>first|(injection h with h;subst h;exact ⟨_,_,_,rfl⟩)|cases h
theorem own_none {σ0:ASt} (h:∀ x r,σ0 x=some r->σ x=some r):∀ x,σ x=none->σ0 x=none:=fun x hx=>by
 cases hc:σ0 x with
 | none=>rfl
 | some r=>rw [h x r hc] at hx;cases hx
set_option maxHeartbeats 1000000 in
theorem pltake_ok (h:PoolAt base σ p m n pg) (hroom:(n:Int)<m.most) :
  ACalls Tryz.prog 30 [.ptr p 0] σ fun v σ'=>∃ (q fa xa c:Nat) (dirty:Bool),v = .tuple [.ptr fa 0,.int .i64 0]/\pg q=none/\1<=q/\q<60000/\base xa=none/\xa≠0/\504<=c ∧
   PinAt (base.set xa (some (.obj (bytesAV (List.replicate 504 0))))) σ' p m (n+1) (pset pg q (some (List.replicate 504 0))) q fa xa c dirty:=by
 have hcb:=h.ck
 obtain ⟨base1,d,ra,ma,own,hand,fs,am,g,tx,ph,h1,hw,hh,hk,htx⟩:=h.open
 have hroom':=plroom_ok h1 hw hh hk
 refine a30 (by simp) ?_
 simp (disch:=first|assumption|omega|(simp only [List.length_append,List.length_cons,List.length_nil];omega)) only [go_sem]
 refine hroom'.mono ?_
 rintro v σ2 ⟨i,hand',fs',am',g',rfl,hi,hl,hh',h2,hw2,hsm⟩
 have hp2:=h2.hp
 have htk:=pstake_ok h2 hroom
 simp (disch:=first|assumption|omega|(simp only [List.length_append,List.length_cons,List.length_nil];omega)) only [go_sem,hp2]
 refine htk.mono ?_
 rintro v σ3 ⟨q,rfl,hg,hq1,hq2,h3⟩
 have hp3:=h3.hp
 have hnr2:∀ (j:Nat) (k:Frm),fs'[j]? = some (some k)->k.page≠q:=fun j k hj he=>by
  obtain ⟨s,h4,_⟩:=hw2.has j k hj
  rw [he,hg] at h4;cases h4
 have hpq:ph q=none:=by rw [hw2.pg2 q hnr2];exact hg
 have hgq:pg q=none:=by
  cases hc:pg q with
  | none=>rfl
  | some s=>rw [htx.phys hc] at hpq;cases hpq
 have hsl:(List.replicate 504 (0:UInt8)).length=504:=List.length_replicate
 have hw3:=hw2.took hg (some (List.replicate 504 0))
 have e504:((504:Int)).toNat=504:=rfl
 have hzb:(List.replicate 504 (AV.int .u8 0))=bytesAV (List.replicate 504 0):=zero_bytes 504
 have hle:504<=(bytesAV (List.replicate 504 0)).length:=by rw [kbytes_len,List.length_replicate];exact Nat.le_refl _
 have htk2:(bytesAV (List.replicate 504 0)).take 504=bytesAV (List.replicate 504 0):=List.take_of_length_le (by rw [kbytes_len,List.length_replicate];exact Nat.le_refl _)
 generalize List.replicate 504 (0:UInt8)=zs at *
 have hle':504<=zs.length:=by omega
 have fin:∀ (base1' τ:ASt) (tx':TxV) (z:Nat),PS base1' τ p d ra ma own (hand':Int) 0 fs' am' none tx' m.most (n+1) (pset g' q (some zs))->TxAt base base1' tx' m.old (pset ph q (some zs)) (pset pg q (some zs)) (fun _=>False)->τ z=none →
   ACalls Tryz.prog 88 [.ptr p 0,.int .i64 i,.int .i64 q,.str zs] (τ.set z (some (.obj (bytesAV zs)))) fun v σ'=>∃ (fa xa c:Nat),v = .ptr fa 0/\base xa=none/\xa≠0/\504<=c/\PinAt (base.set xa (some (.obj (bytesAV zs)))) σ' p m (n+1) (pset pg q (some zs)) q fa xa c false:=by
  intro base1' τ tx' z k3 kt hz
  have hst:Drop (τ.set z (some (.obj (bytesAV zs)))) τ:=Drop.set hz
  refine ((pllay_ok (q:=q) k3 hi hsl (by omega)).off hst).mono ?_
  rintro v σ4 ⟨f,own',rfl,hfq,hfb,hfd,hfc,hzx,h4⟩
  have hzb:base1' f.xa=none:=own_none (σ:=τ) (fun x r hx=>k3.hb hx) _ hzx
  have hck:f.xa≠0:=fun e=>by rw [e,k3.hb k3.ckT] at hzx;cases hzx
  have hil:i<fs'.length:=(List.getElem?_eq_some_iff.1 hi).1
  have hw4:=hw3.lay (f:=f) hi (by rw [hfq,hfb];exact pset_same _ _ _) (by rw [hfq,hfb];exact pset_same _ _ _) (by rw [hfq];exact hnr2) ⟨by rw [hfb];exact hsl,hfc⟩
  rw [hfq] at hw4
  have hfin:=PinAt.shut (ed:=false) h4 hw4 (by rw [List.length_set];exact hh') (by rw [List.length_set];omega) (List.getElem?_set_self hil) (hcb.away hck) (fun h=>(by cases h)) (by rw [hfq,pset_same];simp) ((kt.set (some (.obj (bytesAV f.bs))) (.inr hzb)).less fun q h=>(by cases h.1))
  rw [hfq,hfb] at hfin
  exact ⟨f.fa,f.xa,f.c,rfl,own_none (σ:=base1') kt.1 _ hzb,hck,hfc,hfin⟩
 obtain ⟨most,old⟩:=m
 cases old with
 | none=>
   obtain ⟨hext,rfl,hpp⟩:=htx
   dsimp only at hp3
   have fin':=fun z hz=>fin base1 σ3 _ z h3 ⟨hext,rfl,by rw [hpp]⟩ hz
   simp (disch:=first|assumption|omega|(simp only [List.length_append,List.length_cons,List.length_nil];omega)) only [go_sem,hp3]
   refine mks_own (by decide) (by decide) (by decide) (by decide) fun z hz=>?_
   have fin2:=fin' z hz
   rw [e504,hzb]
   simp (disch:=first|assumption|omega|(simp only [List.length_append,List.length_cons,List.length_nil];omega)) only [go_sem,hle',hle,htk2,List.drop_zero,Nat.zero_add]
   refine fin2.mono ?_
   rintro v σ4 ⟨fa,xa,c,rfl,g1,g2,g3,g4⟩
   simp (disch:=first|assumption|omega|(simp only [List.length_append,List.length_cons,List.length_nil];omega)) only [go_sem]
   exact retC_by (.refl _) (.refl _) ⟨q,fa,xa,c,false,rfl,hgq,hq1,hq2,g1,g2,g3,g4⟩
 | some o=>
   obtain ⟨hext,wb,wl,md,gn,mv,gv,rfl,hO,hP,_⟩:=htx
   dsimp only at hp3
   have hfew:=hP.few (h1.few hw)
   have hm3:OwnR base σ3 .i64 mv md:=hO.hm.mono fun X r _ hr=>h3.hb hr
   have hap:=fun (e:TypeId) (kl:SK) (K:AV->ASt->Prop)=>hm3.app (own_none fun x r hx=>h3.hb (hext x r hx)) (by omega) (e:=e) (kl:=kl) (x:=q) (z:=0) (K:=K)
   simp (disch:=first|assumption|omega|(simp only [List.length_append,List.length_cons,List.length_nil];omega)) only [go_sem,hp3]
   refine hap _ _ _ fun v' X r hv' hX hO'=>?_
   obtain ⟨x1,x2,x3⟩:=PS.row (old:=none) (kp:=fun _=>True) (v':=v') (r:=r) (b1:=true) h3 hO hO.hm hX
   have h4:=h3.put r x1 x2
   have hp4:=h4.hp
   have h5:=h4.setP hand' 0 ⟨true,.map (some wb),v',gv⟩
   have hXg:blkV gv≠some X:=fun e=>by
    rcases hX with hX|hX
    ·exact hO.dj X hX e
    ·obtain ⟨⟨cs,h6⟩,_⟩:=hO.hg.blk e
     rw [h3.hb h6] at hX;cases hX
   have hbX:base X=none:=by
    rcases hX with hX|hX
    ·exact (hO.hm.blk hX).2
    ·exact own_none (fun x r hx=>h3.hb (hext x r hx)) _ hX
   have ht5:TxAt base (base1.set X (some r)) ⟨true,.map (some wb),v',gv⟩ (some o) (pset ph q (some zs)) (pset pg q (some zs)) fun _=>False:=
    ⟨ext_set hext hbX,wb,wl,md ++ [q],gn,v',gv,rfl,⟨by rw [ASt.set_ne (Ne.symm x3)];exact hO.hw,hO.zw,hO'.at_base (v':=v') hv',hO.hg.set hXg,fun Y hY e=>by rw [hv'] at hY;injection hY with hY;subst hY;exact hXg e⟩,hP.took hpq zs,fun q hq=>hq.elim⟩
   have fin':=fun z hz=>fin _ _ _ z h5 ht5 hz
   obtain ⟨vo,vn,vc,rfl⟩:=blkV_msl hv'
   dsimp only at hp4 fin'
   obtain ⟨σ4,hσ4⟩:∃ s,s=σ3.set X (some r):=⟨_,rfl⟩
   rw [<-hσ4] at hp4 fin' ⊢
   generalize fs'.length=FL at *
   simp (disch:=first|assumption|omega|(simp only [List.length_append,List.length_cons,List.length_nil];omega)) only [go_sem,hp4]
   refine mks_own (by decide) (by decide) (by decide) (by decide) fun z hz=>?_
   have fin2:=fin' z hz
   rw [e504,hzb]
   simp (disch:=first|assumption|omega|(simp only [List.length_append,List.length_cons,List.length_nil];omega)) only [go_sem,hle',hle,htk2,List.drop_zero,Nat.zero_add]
   refine fin2.mono ?_
   rintro v σ4 ⟨fa,xa,c,rfl,g1,g2,g3,g4⟩
   simp (disch:=first|assumption|omega|(simp only [List.length_append,List.length_cons,List.length_nil];omega)) only [go_sem]
   exact retC_by (.refl _) (.refl _) ⟨q,fa,xa,c,false,rfl,hgq,hq1,hq2,g1,g2,g3,g4⟩
set_option maxHeartbeats 1000000 in
theorem plgive_ok (h:PoolAt base σ p m n pg) (hq:pg q=some s) :
  ACalls Tryz.prog 44 [.ptr p 0,.int .i64 q] σ fun v σ'=>v = .int .i64 0/\PoolAt base σ' p m n (pset pg q none):=by
 have hcb:=h.ck
 obtain ⟨base1,d,ra,ma,own,hand,fs,am,g,tx,ph,h1,hw,hh,hk,htx⟩:=h.open
 have hqp:=htx.phys hq
 obtain ⟨t,hg⟩:=hw.res hqp
 have hhas:=pshas_ok h1 hg
 have hgv:=psgive_ok h1 hg
 have hp:=h1.hp
 have hm:=h1.hm
 have hr:=h1.hr
 have hcn:ACalls Tryz.prog 101 [tx.gv,.int .i64 q] σ fun r σ'=>r = .bool false/\σ'=σ:=by
  obtain ⟨gn,g1,g2,g3⟩:=htx.gone (h1.few hw)
  have:=g1.contains (by omega) (fun x r=>h1.hb) q
  rwa [decide_eq_false (g3 q _ hq)] at this
 have hfew:=h1.few hw
 obtain ⟨most,old⟩:=m
 cases old with
 | none=>
   obtain ⟨hext,rfl,rfl⟩:=htx
   dsimp only at hp hcn
   have hshut:∀ {τ:ASt} {fs':List (Option Frm)} {am':List (Int×Int)},PS base1 τ p d ra ma own (hand:Int) 0 fs' am' none ⟨false,.map none,.sl .full [],.sl .full []⟩ most n (pset g q none)->PW fs' am' (pset g q none) (pset pg q none)->fs'.length=fs.length->PoolAt base τ p ⟨most,none⟩ n (pset pg q none):=fun k1 k2 k3=>
    PoolAt.shut (m:=⟨most,none⟩) k1 k2 (by omega) (by omega) hcb ⟨hext,rfl,rfl⟩
   cases ham:findM am (q:Int) with
   | some v=>
     obtain ⟨i,f,rfl,hi,hfq⟩:=hw.am2 q v ham
     have hfa:=h1.hf hi
     rw [pinV_none] at hfa
     have hil:i<fs.length:=(List.getElem?_eq_some_iff.1 hi).1
     have hget:=row_get (fs:=fs) hi
     have hv:frV (some f) = .ptr f.fa 0:=rfl
     rw [hv] at hget
     generalize fs.map frV=MR at *
     have i1:(i:Int)<(fs.length:Int):=by omega
     refine a44 (by simp) ?_
     simp (disch:=first|assumption|omega|(simp only [List.length_append,List.length_cons,List.length_nil];omega)) only [go_sem,hp,hm,ham,Option.getD_some,Option.isSome_some,hr,hget,Int.toNat_natCast,Nat.zero_add,hfa]
     refine hhas.mono ?_
     rintro v σ1 ⟨rfl,rfl⟩
     simp (disch:=first|assumption|omega|(simp only [List.length_append,List.length_cons,List.length_nil];omega)) only [go_sem,hp]
     refine hcn.mono ?_
     rintro v σ1 ⟨rfl,rfl⟩
     simp (disch:=first|assumption|omega|(simp only [List.length_append,List.length_cons,List.length_nil];omega)) only [go_sem,hp]
     refine hgv.mono ?_
     rintro v σ2 ⟨rfl,h2⟩
     have hfg:=plforget_ok h2 (i:=i) (q:=q) (by simp) hil ham
     have hw2:=hw.gaveF hi
     rw [hfq] at hw2
     simp (disch:=first|assumption|omega|(simp only [List.length_append,List.length_cons,List.length_nil];omega)) only [go_sem]
     refine hfg.mono ?_
     rintro v σ3 ⟨rfl,h3⟩
     simp (disch:=first|assumption|omega|(simp only [List.length_append,List.length_cons,List.length_nil];omega)) only [go_sem]
     exact retC_by (.refl _) (.refl _) ⟨rfl,hshut h3 hw2 List.length_set⟩
   | none=>
     have hnr:∀ (j:Nat) (k:Frm),fs[j]? = some (some k)->k.page≠q:=fun j k hj he=>by
      have:=hw.am1 j k hj
      rw [he,ham] at this;cases this
     refine a44 (by simp) ?_
     simp (disch:=first|assumption|omega|(simp only [List.length_append,List.length_cons,List.length_nil];omega)) only [go_sem,hp,hm,ham,Option.getD_none,Option.isSome_none]
     refine hhas.mono ?_
     rintro v σ1 ⟨rfl,rfl⟩
     simp (disch:=first|assumption|omega|(simp only [List.length_append,List.length_cons,List.length_nil];omega)) only [go_sem,hp]
     refine hcn.mono ?_
     rintro v σ1 ⟨rfl,rfl⟩
     simp (disch:=first|assumption|omega|(simp only [List.length_append,List.length_cons,List.length_nil];omega)) only [go_sem,hp]
     refine hgv.mono ?_
     rintro v σ2 ⟨rfl,h2⟩
     have hfg:=plforget_no h2 (q:=q) ham
     have hw2:=hw.gave hnr none
     simp (disch:=first|assumption|omega|(simp only [List.length_append,List.length_cons,List.length_nil];omega)) only [go_sem]
     refine hfg.mono ?_
     rintro v σ3 ⟨rfl,rfl⟩
     simp (disch:=first|assumption|omega|(simp only [List.length_append,List.length_cons,List.length_nil];omega)) only [go_sem]
     exact retC_by (.refl _) (.refl _) ⟨rfl,hshut h2 hw2 rfl⟩
 | some o=>
   obtain ⟨hext,wb,wl,md,gn,mv,gv,rfl,hO,hP,_⟩:=htx
   dsimp only at hp hcn
   have hfew':=hP.few hfew
   have hqg:q ∉ gn:=fun hc=>by rw [hP.vw q,if_pos hc] at hq;cases hq
   have hg3:OwnR base σ .i64 gv gn:=hO.hg.mono fun X r _ hr=>h1.hb hr
   have hap:=fun (e:TypeId) (kl:SK) (K:AV->ASt->Prop)=>hg3.app (own_none fun x r hx=>h1.hb (hext x r hx)) (by omega) (e:=e) (kl:=kl) (x:=q) (z:=0) (K:=K)
   have fin:∀ (v':AV) (X:Nat) (r:Role),blkV v'=some X->(blkV gv=some X\/σ X=none)->OwnR base (σ.set X (some r)) .i64 v' (gn ++ [q]) →
     (σ.set X (some r)) p=some (.obj [.ptr d 0,.msl ra 0 fs.length fs.length,.map (some ma),.int .i64 hand,.int .i64 0,.bool true,.map (some wb),mv,gv])/\PoolAt base ((σ.set X (some r)).set p (some (.obj [.ptr d 0,.msl ra 0 fs.length fs.length,.map (some ma),.int .i64 hand,.int .i64 0,.bool true,.map (some wb),mv,v']))) p ⟨most,some o⟩ n (pset pg q none):=by
    intro v' X r hv' hX hO'
    obtain ⟨x1,x2,x3⟩:=PS.row (old:=none) (kp:=fun _=>True) (v':=v') (r:=r) (b1:=true) h1 hO hO.hg hX
    have h4:=h1.put r x1 x2
    have h5:=h4.setP hand 0 ⟨true,.map (some wb),mv,v'⟩
    have hXm:blkV mv≠some X:=fun e=>by
     rcases hX with hX|hX
     ·exact hO.dj X e hX
     ·obtain ⟨⟨cs,h6⟩,_⟩:=hO.hm.blk e
      rw [h1.hb h6] at hX;cases hX
    have hbX:base X=none:=by
     rcases hX with hX|hX
     ·exact (hO.hg.blk hX).2
     ·exact own_none (fun x r hx=>h1.hb (hext x r hx)) _ hX
    refine ⟨h4.hp,PoolAt.shut (m:=⟨most,some o⟩) h5 hw hh hk hcb ⟨ext_set hext hbX,wb,wl,md,gn ++ [q],mv,v',rfl,⟨by rw [ASt.set_ne (Ne.symm x3)];exact hO.hw,hO.zw,hO.hm.set hXm,hO'.at_base (v':=v') hv',fun Y hY e=>by rw [hv'] at e;injection e with e;subst e;exact hXm hY⟩,hP.gave (by rw [hqp];simp) hqg,fun q hq=>hq.elim⟩⟩
   generalize hFL:fs.length=FL at *
   cases ham:findM am (q:Int) with
   | some v=>
     obtain ⟨i,f,rfl,hi,hfq⟩:=hw.am2 q v ham
     have hfa:=h1.hf hi
     rw [pinV_none] at hfa
     have hil:i<fs.length:=(List.getElem?_eq_some_iff.1 hi).1
     have hget:=row_get (fs:=fs) hi
     have hv:frV (some f) = .ptr f.fa 0:=rfl
     rw [hv] at hget
     generalize fs.map frV=MR at *
     have i1:(i:Int)<(FL:Int):=by omega
     refine a44 (by simp) ?_
     simp (disch:=first|assumption|omega|(simp only [List.length_append,List.length_cons,List.length_nil];omega)) only [go_sem,hp,hm,ham,Option.getD_some,Option.isSome_some,hr,hget,Int.toNat_natCast,Nat.zero_add,hfa]
     refine hhas.mono ?_
     rintro v σ1 ⟨rfl,rfl⟩
     simp (disch:=first|assumption|omega|(simp only [List.length_append,List.length_cons,List.length_nil];omega)) only [go_sem,hp]
     refine hcn.mono ?_
     rintro v σ1 ⟨rfl,rfl⟩
     simp (disch:=first|assumption|omega|(simp only [List.length_append,List.length_cons,List.length_nil];omega)) only [go_sem,hp]
     refine hap _ _ _ fun v' X r hv' hX hO'=>?_
     obtain ⟨g1,g2⟩:=fin v' X r hv' hX hO'
     obtain ⟨vo,vn,vc,rfl⟩:=blkV_msl hv'
     simp (disch:=first|assumption|omega|(simp only [List.length_append,List.length_cons,List.length_nil];omega)) only [go_sem,g1]
     exact retC_by (.refl _) (.refl _) ⟨rfl,g2⟩
   | none=>
     refine a44 (by simp) ?_
     simp (disch:=first|assumption|omega|(simp only [List.length_append,List.length_cons,List.length_nil];omega)) only [go_sem,hp,hm,ham,Option.getD_none,Option.isSome_none]
     refine hhas.mono ?_
     rintro v σ1 ⟨rfl,rfl⟩
     simp (disch:=first|assumption|omega|(simp only [List.length_append,List.length_cons,List.length_nil];omega)) only [go_sem,hp]
     refine hcn.mono ?_
     rintro v σ1 ⟨rfl,rfl⟩
     simp (disch:=first|assumption|omega|(simp only [List.length_append,List.length_cons,List.length_nil];omega)) only [go_sem,hp]
     refine hap _ _ _ fun v' X r hv' hX hO'=>?_
     obtain ⟨g1,g2⟩:=fin v' X r hv' hX hO'
     obtain ⟨vo,vn,vc,rfl⟩:=blkV_msl hv'
     simp (disch:=first|assumption|omega|(simp only [List.length_append,List.length_cons,List.length_nil];omega)) only [go_sem,g1]
     exact retC_by (.refl _) (.refl _) ⟨rfl,g2⟩
end
end Go.A
namespace Go.A
open Go.Proofs
/-! 5: tabular/pool.New -/
def c5_7:ACode := .seq (.ops [ oq 6 (.mv (.v .nilp))]) (.seq (.ops [ oq 8 (.mv (.t 0)),oq 9 (.mv (.t 1)),oq 10 (.mnx true (.t 9) (.v (.int .i64 1))),oe 11 (.mks 79 8 .nilp (.t 10) (.t 10)),oe 12 (.mkm),oq 13 (.build [.nilp,(.sl .full []),(.map none),(.int .i64 0),(.int .i64 0),(.bool false),(.map none),(.sl .full []),(.sl .full [])] [(0,1,(.t 8)),(1,1,(.t 11)),(2,1,(.t 12))]),oe 14 (.box (.t 13)),oq 7 (.mv (.t 14))]) (.seq (.ops [ oq 15 (.mv (.t 7)),oq 16 (.mv (.t 2)),oe 17 (.call 28 [(.t 15),(.t 16)])]) (.seq (.ops [ oq 18 (.mv (.t 7)),oq 6 (.mv (.t 18))]) .ret)))
@[go_sem] def c5_7_wp:=wp_of c5_7.eq_1
def c5:AFn:=⟨19,[.t 6],c5_7⟩
theorem c5_ok:compF Tryz.prog Tryz.f5=some c5:=by kernel_rfl
theorem a5 {args:List AV} {σ:ASt} {R:AV->ASt->Prop} (hl:args.length<=19) (h:c5_7.wp Tryz.prog (RetQ [.t 6] R) (init args) σ):ACalls Tryz.prog 5 args σ R:=acalls_of Tryz.func5 c5_ok hl h
/-! 28: (*tabular/pool.Pool).Hand -/
def c28_2:ACode := .seq (.ops [ oq 5 (.mv (.t 0)),oq 6 (.nc (.t 5)),oq 7 (.fa 1 (.t 6)),oq 8 (.ld none (.t 7)),oq 9 (.len (.t 8)),oq 4 (.mv (.t 9))]) (.ops [ oq 10 (.mv (.t 0)),oq 11 (.mv (.t 1)),oq 12 (.mv (.t 4)),oq 13 (.bin .rem (.t 11) (.t 12)),oq 14 (.mv (.t 4)),oq 15 (.bin .add (.t 13) (.t 14)),oq 16 (.mv (.t 4)),oq 17 (.bin .rem (.t 15) (.t 16)),oq 18 (.nc (.t 10)),oq 19 (.fa 3 (.t 18)),oz (.store 1 (.t 19) (.t 17))])
@[go_sem] def c28_2_wp:=wp_of c28_2.eq_1
def c28:AFn:=⟨20,[],c28_2⟩
theorem c28_ok:compF Tryz.prog Tryz.f28=some c28:=by kernel_rfl
theorem a28 {args:List AV} {σ:ASt} {R:AV->ASt->Prop} (hl:args.length<=20) (h:c28_2.wp Tryz.prog (RetQ [] R) (init args) σ):ACalls Tryz.prog 28 args σ R:=acalls_of Tryz.func28 c28_ok hl h
end Go.A
namespace Go.A
open Go.Proofs
section
abbrev tx0:TxV:=⟨false,.map none,.sl .full [],.sl .full []⟩
variable {base σ:ASt} {p d n:Nat} {m:Int} {g pg:Pgs}
theorem PW.new (F:Nat) (g:Pgs):PW (List.replicate F none) [] g g:=by
 have key:∀ (i:Nat) (f:Frm),(List.replicate F (none:Option Frm))[i]? = some (some f)->False:=fun i f h=>by
  rw [List.getElem?_replicate] at h
  split at h
  ·injection h with h;cases h
  ·cases h
 exact ⟨fun i f h=>(key i f h).elim,fun i f h=>(key i f h).elim,fun i f h=>(key i f h).elim,fun q v h=>(by cases h),List.nodup_nil,fun i f h=>(key i f h).elim,fun q _=>rfl⟩
set_option maxHeartbeats 1000000 in
theorem plnew_ok (h:DkAt base d m n g σ) (hck:CkT base) {F:Nat} (h1:1<=F) (h2:F<=1000):ACalls Tryz.prog 5 [.ptr d 0,.int .i64 F,.int .i64 0] σ fun v σ'=>∃ p,v = .ptr p 0/\PoolAt base σ' p ⟨m,none⟩ n g:=by
 have e1:max (F:Int) 1=(F:Int):=by omega
 have k0:¬ (F:Int)=0:=by omega
 have e2:((F:Int)).tmod (F:Int)=0:=Int.tmod_self
 have e3:(0:Int).tmod (F:Int)=0:=Int.zero_tmod _
 refine a5 (by simp) ?_
 simp (disch:=first|assumption|omega|(simp only [List.length_append,List.length_cons,List.length_nil];omega)) only [go_sem,e1]
 refine mks_own (by omega) (by omega) (by omega) (by omega) fun ra hra=>?_
 simp (disch:=first|assumption|omega|(simp only [List.length_append,List.length_cons,List.length_nil];omega)) only [go_sem]
 refine mkmC_by fun ma hma=>?_
 simp (disch:=first|assumption|omega|(simp only [List.length_append,List.length_cons,List.length_nil];omega)) only [go_sem]
 refine boxC_by rfl fun p hp=>?_
 obtain ⟨m1,m2,hmz⟩:=set_none hma
 obtain ⟨p1,p2,hpz⟩:=set_none hp
 obtain ⟨p3,p4,hpz2⟩:=set_none hpz
 have hl:(List.replicate F (none:Option Frm)).length=F:=List.length_replicate
 have hm:(List.replicate F (none:Option Frm)).map frV=List.replicate F .nilp:=List.map_replicate
 have d3:=((h.add (some (.obj (List.replicate F .nilp))) hra).add (some (.map [])) hma).add (some (.obj (plCs d ra ma F 0 0 tx0))) hp
 have b1:=h.gone hra
 have b2:=h.gone hmz
 have b3:=h.gone hpz2
 have hPM:PM base (((base.set ra (some (.obj (List.replicate F .nilp)))).set ma (some (.map []))).set p (some (.obj (plCs d ra ma F 0 0 tx0)))) p d ra ma (fun x=>if x=p then 0 else if x=ra then 1 else 2) ((0:Nat):Int) 0 (List.replicate F none) [] none tx0:=by
  have key:∀ (i:Nat) (f:Frm),(List.replicate F (none:Option Frm))[i]? = some (some f)->False:=fun i f h=>by
   rw [List.getElem?_replicate] at h
   split at h
   ·injection h with h;cases h
   ·cases h
  refine ⟨?_,?_,?_,fun i f h=>(key i f h).elim,fun i f h=>(key i f h).elim,if_pos rfl,?_,?_,fun i f h=>(key i f h).elim,b3,b1,b2,fun i f h=>(key i f h).elim,fun x r hx=>?_⟩
  ·rw [hl];exact ASt.set_same _ _ _
  ·rw [ASt.set_ne p4,ASt.set_ne m2,ASt.set_same,hm]
  ·rw [ASt.set_ne p2,ASt.set_same]
  ·show (if ra=p then 0 else if ra=ra then 1 else 2)=1
   rw [if_neg p4,if_pos rfl]
  ·show (if ma=p then 0 else if ma=ra then 1 else 2)=2
   rw [if_neg p2,if_neg m1]
  ·rw [ASt.set_ne (fun e=>by rw [e,b3] at hx;cases hx),ASt.set_ne (fun e=>by rw [e,b2] at hx;cases hx),ASt.set_ne (fun e=>by rw [e,b1] at hx;cases hx)]
   exact hx
 have hfin:PoolAt base (((σ.set ra (some (.obj (List.replicate F .nilp)))).set ma (some (.map []))).set p (some (.obj (plCs d ra ma F 0 0 tx0)))) p ⟨m,none⟩ n g:=⟨base,_,d,ra,ma,_,0,_,[],g,tx0,g,d3,hPM,PW.new F g,by rw [hl];omega,by rw [hl];exact h2,hck,fun y r h=>h,rfl,rfl⟩
 have eF:((F:Int)).toNat=F:=Int.toNat_natCast F
 have hH:∀ τ:ASt,τ p=some (.obj (plCs d ra ma F 0 0 tx0))->ACalls Tryz.prog 28 [.ptr p 0,.int .i64 0] τ fun v σ'=>v = .tuple []/\σ'=τ.set p (some (.obj (plCs d ra ma F 0 0 tx0))):=fun τ hτ=>by
  unfold plCs at hτ ⊢
  refine a28 (by simp) ?_
  simp (disch:=first|assumption|omega|(simp only [List.length_append,List.length_cons,List.length_nil];omega)) only [go_sem,hτ,e2,e3,Int.zero_add]
  exact retC_by (.refl _) (.refl _) ⟨rfl,rfl⟩
 have hHH:=hH (((σ.set ra (some (.obj (List.replicate F .nilp)))).set ma (some (.map []))).set p (some (.obj (plCs d ra ma F 0 0 tx0)))) (ASt.set_same _ _ _)
 rw [ASt.set_set] at hHH
 unfold plCs at hHH hfin
 simp (disch:=first|assumption|omega|(simp only [List.length_append,List.length_cons,List.length_nil];omega)) only [go_sem]
 refine hHH.mono ?_
 rintro v σ' ⟨rfl,rfl⟩
 simp (disch:=first|assumption|omega|(simp only [List.length_append,List.length_cons,List.length_nil];omega)) only [go_sem]
 exact retC_by (.refl _) (.refl _) ⟨p,rfl,hfin⟩
end
end Go.A
namespace Go.A
open Go.Proofs
/-! 33: tabular/tree.encode -/
def c33_14:ACode := .seq (.ops [ oq 30 (.bin .lss (.t 29) (.t 28))]) (.seq (.cond (.t 30) .skip (.exit 0)) (.seq (.block 1 (.seq (.ops [ oq 31 (.mv (.t 29)),oq 32 (.ia 1 (.t 27) (.t 29)),oq 33 (.ld none (.t 32)),oq 4 (.mv (.t 31)),oq 5 (.mv (.t 33))]) (.seq (.ops [ oq 34 (.mv (.t 0)),oq 35 (.mv (.t 4)),oq 36 (.bin .mul (.v (.int .i64 16)) (.t 35)),oq 37 (.bin .add (.v (.int .i64 4)) (.t 36)),oq 38 (.slfrom (false,1) (.t 34) (.t 37)),oq 39 (.mv (.t 5)),oe 40 (.call 89 [(.t 38),(.t 39)])]) (.ops [ oq 41 (.mv (.t 0)),oq 42 (.mv (.t 4)),oq 43 (.bin .mul (.v (.int .i64 16)) (.t 42)),oq 44 (.bin .add (.v (.int .i64 12)) (.t 43)),oq 45 (.slfrom (false,1) (.t 41) (.t 44)),oq 46 (.mv (.t 1)),oq 47 (.nc (.t 46)),oq 48 (.fa 2 (.t 47)),oq 49 (.ld none (.t 48)),oq 50 (.mv (.t 4)),oq 51 (.ia 1 (.t 49) (.t 50)),oq 52 (.ld none (.t 51)),oe 53 (.call 89 [(.t 45),(.t 52)])])))) (.ops [ oq 54 (.bin .add (.t 29) (.v (.int .i64 1))),oq 29 (.mv (.t 54))])))
def c33_33:ACode := .seq (.ops [ oq 71 (.bin .lss (.t 70) (.t 69))]) (.seq (.cond (.t 71) .skip (.exit 2)) (.seq (.block 3 (.seq (.ops [ oq 72 (.mv (.t 70)),oq 73 (.ia 1 (.t 68) (.t 70)),oq 74 (.ld none (.t 73)),oq 6 (.mv (.t 72)),oq 7 (.mv (.t 74))]) (.ops [ oq 75 (.mv (.t 0)),oq 76 (.mv (.t 6)),oq 77 (.bin .mul (.v (.int .i64 4)) (.t 76)),oq 78 (.bin .add (.v (.int .i64 4)) (.t 77)),oq 79 (.slfrom (false,1) (.t 75) (.t 78)),oq 80 (.mv (.t 7)),oq 81 (.conv .u32 (.t 80)),oe 82 (.call 36 [(.t 79),(.t 81)])]))) (.ops [ oq 83 (.bin .add (.t 70) (.v (.int .i64 1))),oq 70 (.mv (.t 83))])))
def c33_47:ACode := .seq (.ops [ oq 90 (.bin .lss (.t 89) (.t 88))]) (.seq (.cond (.t 90) .skip (.exit 4)) (.seq (.block 5 (.seq (.ops [ oq 91 (.mv (.t 89)),oq 92 (.ia 1 (.t 87) (.t 89)),oq 93 (.ld none (.t 92)),oq 8 (.mv (.t 91)),oq 9 (.mv (.t 93))]) (.ops [ oq 94 (.mv (.t 0)),oq 95 (.mv (.t 8)),oq 96 (.bin .mul (.v (.int .i64 8)) (.t 95)),oq 97 (.bin .add (.v (.int .i64 164)) (.t 96)),oq 98 (.slfrom (false,1) (.t 94) (.t 97)),oq 99 (.mv (.t 9)),oe 100 (.call 89 [(.t 98),(.t 99)])]))) (.ops [ oq 101 (.bin .add (.t 89) (.v (.int .i64 1))),oq 89 (.mv (.t 101))])))
def c33_53:ACode := .seq (.seq (.ops [ oq 10 (.mv (.t 1)),oq 11 (.nc (.t 10)),oq 12 (.fa 0 (.t 11)),oq 13 (.ld none (.t 12))]) (.cond (.t 13) (.seq (.ops [ oq 14 (.mv (.t 0)),oq 15 (.mv (.t 0)),oq 16 (.mv (.t 1)),oq 17 (.nc (.t 16)),oq 18 (.fa 1 (.t 17)),oq 19 (.ld none (.t 18)),oq 20 (.len (.t 19)),oq 21 (.conv .u8 (.t 20)),oq 22 (.ia 1 (.t 14) (.v (.int .i64 0))),oz (.store 1 (.t 22) (.v (.int .u8 1))),oq 23 (.ia 1 (.t 15) (.v (.int .i64 1))),oz (.store 1 (.t 23) (.t 21))]) (.seq (.seq (.ops [ oq 24 (.mv (.t 1)),oq 25 (.nc (.t 24)),oq 26 (.fa 1 (.t 25)),oq 27 (.ld none (.t 26)),oq 28 (.len (.t 27)),oq 29 (.mv (.v (.int .i64 0)))]) (.block 0 (.loop c33_14))) .ret)) .skip)) (.seq (.ops [ oq 55 (.mv (.t 0)),oq 56 (.mv (.t 0)),oq 57 (.mv (.t 1)),oq 58 (.nc (.t 57)),oq 59 (.fa 3 (.t 58)),oq 60 (.ld none (.t 59)),oq 61 (.len (.t 60)),oq 62 (.conv .u8 (.t 61)),oq 63 (.ia 1 (.t 55) (.v (.int .i64 0))),oz (.store 1 (.t 63) (.v (.int .u8 2))),oq 64 (.ia 1 (.t 56) (.v (.int .i64 1))),oz (.store 1 (.t 64) (.t 62))]) (.seq (.seq (.ops [ oq 65 (.mv (.t 1)),oq 66 (.nc (.t 65)),oq 67 (.fa 3 (.t 66)),oq 68 (.ld none (.t 67)),oq 69 (.len (.t 68)),oq 70 (.mv (.v (.int .i64 0)))]) (.block 2 (.loop c33_33))) (.seq (.ops [ oq 84 (.mv (.t 1)),oq 85 (.nc (.t 84)),oq 86 (.fa 1 (.t 85)),oq 87 (.ld none (.t 86)),oq 88 (.len (.t 87)),oq 89 (.mv (.v (.int .i64 0)))]) (.block 4 (.loop c33_47)))))
@[go_sem] def c33_14_wp:=wp_of c33_14.eq_1
@[go_sem] def c33_33_wp:=wp_of c33_33.eq_1
@[go_sem] def c33_47_wp:=wp_of c33_47.eq_1
@[go_sem] def c33_53_wp:=wp_of c33_53.eq_1
def c33:AFn:=⟨102,[],c33_53⟩
theorem c33_ok:compF Tryz.prog Tryz.f33=some c33:=by kernel_rfl
theorem a33 {args:List AV} {σ:ASt} {R:AV->ASt->Prop} (hl:args.length<=102) (h:c33_53.wp Tryz.prog (RetQ [] R) (init args) σ):ACalls Tryz.prog 33 args σ R:=acalls_of Tryz.func33 c33_ok hl h
end Go.A
namespace Go.A
open Go.Proofs
def NodeAt (σ:ASt) (n:Nat) (leaf:Bool) (ks vs ds:List Nat):Prop:=∃ k1 k2 k3,σ n=some (.obj [.bool leaf,.sl k1 (kv .u64 ks),.sl k2 (kv .u64 vs),.sl k3 (kv .i64 ds)])
def u64L (l:List Nat):Prop:=∀ x∈l,x<18446744073709551616
def u32L (l:List Nat):Prop:=∀ x∈l,x<4294967296
structure TLeaf (b:List UInt8) (ks vs:List Nat):Prop where
 len:b.length=504
 b0:b[0]? = some 1
 b1:b[1]? = some (UInt8.ofNat ks.length)
 n:vs.length=ks.length
 most:ks.length<=30
 ku:u64L ks
 vu:u64L vs
 k:∀ (i k:Nat),ks[i]? = some k->bat b (4+16*i) 8=le64 k
 v:∀ (i v:Nat),vs[i]? = some v->bat b (12+16*i) 8=le64 v
structure TInner (b:List UInt8) (ks ds:List Nat):Prop where
 len:b.length=504
 b0:b[0]? = some 2
 b1:b[1]? = some (UInt8.ofNat ds.length)
 n:ds.length=ks.length+1
 two:2<=ds.length
 most:ds.length<=40
 ku:u64L ks
 du:u32L ds
 k:∀ (i k:Nat),ks[i]? = some k->bat b (164+8*i) 8=le64 k
 d:∀ (i d:Nat),ds[i]? = some d->bat b (4+4*i) 4=le32 d
theorem take_snoc {α:Type} {l:List α} {i:Nat} {x:α} (h:l[i]? = some x):l.take i ++ [x]=l.take (i+1):=by
 obtain ⟨hi,rfl⟩:=List.getElem?_eq_some_iff.1 h
 rw [List.take_succ_eq_append_getElem hi]
theorem slV_page {X c o:Nat} (ho:o<504) (hc:504<=c):slV (false,1) (.msl X 0 504 c) (o:Int) 504=some (.msl X o (504-o) (c-o)):=by
 have:=slV_nat (b:=X) (o:=0) (n:=504) (c:=c) (lo:=o) (hi:=504) (by omega) hc (by omega)
 rw [Nat.zero_add] at this
 exact this
section
variable {σ:ASt} {X n c:Nat} {b:List UInt8} {ks vs ds:List Nat}
set_option maxHeartbeats 1000000 in
theorem trenc_leaf (hX:σ X=some (.obj (bytesAV b))) (hb:b.length=504) (hc:504<=c) (hn:NodeAt σ n true ks vs ds) (hnX:n≠X) (hv:vs.length=ks.length) (hm:ks.length<=30) (hku:u64L ks) (hvu:u64L vs) :
  ACalls Tryz.prog 33 [.msl X 0 504 c,.ptr n 0] σ fun r σ'=>r = .tuple []/\∃ b',TLeaf b' ks vs/\σ'=σ.set X (some (.obj (bytesAV b'))):=by
 obtain ⟨k1,k2,k3,hn⟩:=hn
 have hkl:=kv_len .u64 ks
 have hvl:=kv_len .u64 vs
 have hkg:=fun (i n:Nat) (h:ks[i]? = some n)=>kv_get (k := .u64) h
 have hvg:=fun (i n:Nat) (h:vs[i]? = some n)=>kv_get (k := .u64) h
 generalize kv .u64 ks=KS at *
 generalize kv .u64 vs=VS at *
 generalize kv .i64 ds=DS at *
 have w1:IntKind.wrap .u8 (ks.length:Int)=((UInt8.ofNat ks.length).toNat:Int):=w_ofNat _
 have p0:=put_byte (b:=b) (o:=0) 1
 have p1:=put_byte (b:=spl b 0 [1]) (o:=1) (UInt8.ofNat ks.length)
 have hbl:(bytesAV b).length=504:=by rw [kbytes_len];exact hb
 obtain ⟨b2,hb2⟩:∃ b2,b2=spl (spl b 0 [1]) 1 [UInt8.ofNat ks.length]:=⟨_,rfl⟩
 have l1:(spl b 0 [1]).length=504:=by rw [spl_len (by simp only [List.length_singleton];omega)];exact hb
 have l2:b2.length=504:=by rw [hb2,spl_len (by simp only [List.length_singleton];omega)];exact l1
 have g0:b2[0]? = some 1:=by
  rw [hb2,get_else (by simp only [List.length_singleton];omega) (by omega)]
  exact get_same (by omega)
 have g1:b2[1]? = some (UInt8.ofNat ks.length):=by
  rw [hb2]
  exact get_same (by omega)
 rw [<-hb2] at p1
 have hbl1:(bytesAV (spl b 0 [1])).length=504:=by rw [kbytes_len];exact l1
 clear hb2
 generalize hM1:bytesAV (spl b 0 [1])=M1 at *
 generalize hM0:bytesAV b=M0 at *
 have e1u:((1:UInt8).toNat:Int)=1:=rfl
 rw [e1u] at p0
 have hnn:=hn
 have hl0:0+1<=M0.length:=by omega
 have hl1:1+1<=M1.length:=by omega
 have z1:(1:Int).toNat=1:=rfl
 have z0:(0:Int).toNat=0:=rfl
 rw [List.take_zero,List.nil_append] at p0
 generalize hL:ks.length=L at *
 refine a33 (by simp) ?_
 simp (disch:=first|assumption|omega|(simp only [List.length_append,List.length_cons,List.length_nil];omega)) only [go_sem,hn,hkl,w1,hX,hl0,p0,hl1,p1,z0,z1,Nat.zero_add]
 obtain ⟨J,hJ⟩:∃ J:Nat->AFr->ASt->Prop,J=fun i a1 s2=>i<=L/\(a1 0 = .msl X 0 504 c/\a1 1 = .ptr n 0/\a1 27 = .sl k1 KS/\a1 28 = .int .i64 L/\a1 29 = .int .i64 i)/\∃ b',b'.length=504/\b'[0]? = some 1/\b'[1]? = some (UInt8.ofNat L) ∧
   (∀ (j k:Nat),j<i->ks[j]? = some k->bat b' (4+16*j) 8=le64 k)/\(∀ (j v:Nat),j<i->vs[j]? = some v->bat b' (12+16*j) 8=le64 v)/\s2=σ.set X (some (.obj (bytesAV b'))):=⟨_,rfl⟩
 refine wp_loop_on J (fun i=>L-i) 0 ?_ ?_
 ·rw [hJ]
  refine ⟨Nat.zero_le _,?_,b2,l2,g0,g1,fun j k hj=>absurd hj (Nat.not_lt_zero _),fun j k hj=>absurd hj (Nat.not_lt_zero _),rfl⟩
  simp (disch:=first|assumption|omega|(simp only [List.length_append,List.length_cons,List.length_nil];omega)) only [go_sem]
 intro i a1 s2 hj
 rw [hJ] at hj
 obtain ⟨hi,hf,b',hb',h0,h1,hk,hvv,rfl⟩:=hj
 by_cases hlt:i<L
 ·have hlt':(i:Int)<(L:Int):=by omega
  obtain ⟨k,hk1⟩:∃ k,ks[i]? = some k:=⟨_,List.getElem?_eq_getElem (by omega)⟩
  obtain ⟨v,hv1⟩:∃ v,vs[i]? = some v:=⟨_,List.getElem?_eq_getElem (by omega)⟩
  have hg1:=hkg i k hk1
  have hg2:=hvg i v hv1
  have hs1:slV (false,1) (.msl X 0 504 c) (4+16*(i:Int)) 504=some (.msl X (4+16*i) (504-(4+16*i)) (c-(4+16*i))):=slV_page (o:=4+16*i) (by omega) hc
  have hs2:slV (false,1) (.msl X 0 504 c) (12+16*(i:Int)) 504=some (.msl X (12+16*i) (504-(12+16*i)) (c-(12+16*i))):=slV_page (o:=12+16*i) (by omega) hc
  have ku:=hku k (List.mem_of_getElem? hk1)
  have vu:=hvu v (List.mem_of_getElem? hv1)
  have c1:=mput64_ok (σ:=σ.set X (some (.obj (bytesAV b')))) (B:=X) (o:=4+16*i) (n:=504-(4+16*i)) (c:=c-(4+16*i)) (v:=k) (ASt.set_same _ _ _) (by omega) (by omega) (by omega) ku
  obtain ⟨b3,hb3⟩:∃ b3,b3=spl b' (4+16*i) (le64 k):=⟨_,rfl⟩
  have l3:b3.length=504:=by rw [hb3,spl_len (by rw [le64_len];omega)];exact hb'
  rw [<-hb3,ASt.set_set] at c1
  have c2:=mput64_ok (σ:=σ.set X (some (.obj (bytesAV b3)))) (B:=X) (o:=12+16*i) (n:=504-(12+16*i)) (c:=c-(12+16*i)) (v:=v) (ASt.set_same _ _ _) (by omega) (by omega) (by omega) vu
  obtain ⟨b4,hb4⟩:∃ b4,b4=spl b3 (12+16*i) (le64 v):=⟨_,rfl⟩
  have l4:b4.length=504:=by rw [hb4,spl_len (by rw [le64_len];omega)];exact l3
  rw [<-hb4,ASt.set_set] at c2
  have f3:∀ o n,o+n<=4+16*i\/4+16*i+8<=o->bat b3 o n=bat b' o n:=fun o n h=>by rw [hb3];exact bat_else (by rw [le64_len];omega) h
  have f4:∀ o n,o+n<=12+16*i\/12+16*i+8<=o->bat b4 o n=bat b3 o n:=fun o n h=>by rw [hb4];exact bat_else (by rw [le64_len];omega) h
  have q3:bat b3 (4+16*i) 8=le64 k:=by rw [hb3];exact bat_same (by rw [le64_len];omega)
  have q4:bat b4 (12+16*i) 8=le64 v:=by rw [hb4];exact bat_same (by rw [le64_len];omega)
  have y0:b4[0]? = some 1:=by rw [hb4,get_else (by rw [le64_len];omega) (by omega),hb3,get_else (by rw [le64_len];omega) (by omega)];exact h0
  have y1:b4[1]? = some (UInt8.ofNat L):=by rw [hb4,get_else (by rw [le64_len];omega) (by omega),hb3,get_else (by rw [le64_len];omega) (by omega)];exact h1
  clear hb3 hb4
  simp (disch:=first|assumption|omega|(simp only [List.length_append,List.length_cons,List.length_nil];omega)) only [go_sem,hf,hlt',hg1,hs1,Int.toNat_natCast]
  refine c1.mono ?_
  rintro r σ1 ⟨rfl,rfl⟩
  simp (disch:=first|assumption|omega|(simp only [List.length_append,List.length_cons,List.length_nil];omega)) only [go_sem,hf,hs2,hn,hg2,Int.toNat_natCast]
  refine c2.mono ?_
  rintro r σ1 ⟨rfl,rfl⟩
  simp (disch:=first|assumption|omega|(simp only [List.length_append,List.length_cons,List.length_nil];omega)) only [go_sem,hf]
  refine ⟨i+1,by omega,?_⟩
  rw [hJ]
  refine ⟨by omega,?_,b4,l4,y0,y1,fun j k' hj hk'=>?_,fun j v' hj hv'=>?_,rfl⟩
  ·simp (disch:=first|assumption|omega|(simp only [List.length_append,List.length_cons,List.length_nil];omega)) only [go_sem,hf]
  ·by_cases hji:j=i
   ·subst hji
    rw [hk1] at hk'
    rw [<-Option.some.inj hk',f4 _ _ (by omega)]
    exact q3
   ·rw [f4 _ _ (by omega),f3 _ _ (by omega)]
    exact hk j k' (by omega) hk'
  ·by_cases hji:j=i
   ·subst hji
    rw [hv1] at hv'
    rw [<-Option.some.inj hv']
    exact q4
   ·rw [f4 _ _ (by omega),f3 _ _ (by omega)]
    exact hvv j v' (by omega) hv'
 ·have hlt':¬ (i:Int)<(L:Int):=by omega
  obtain rfl:i=L:=by omega
  have hfin:TLeaf b' ks vs:=⟨hb',h0,by rw [hL];exact h1,by rw [hL];exact hv,by rw [hL];exact hm,hku,hvu,fun j k hk'=>hk j k (by have:=(List.getElem?_eq_some_iff.1 hk').1;omega) hk',fun j v hv'=>hvv j v (by have:=(List.getElem?_eq_some_iff.1 hv').1;omega) hv'⟩
  simp (disch:=first|assumption|omega|(simp only [List.length_append,List.length_cons,List.length_nil];omega)) only [go_sem,hf,hlt']
  exact retC_by (.refl _) (.refl _) ⟨rfl,b',hfin,rfl⟩
end
end Go.A
namespace Go.A
open Go.Proofs
/-! 92: tabular/tree.decode -/
def c92_16:ACode := .seq (.ops [ oq 27 (.bin .lss (.t 26) (.t 25))]) (.seq (.cond (.t 27) .skip (.exit 1)) (.seq (.block 2 (.seq (.ops [ oq 28 (.mv (.t 26)),oq 6 (.mv (.t 28))]) (.seq (.ops [ oq 29 (.mv (.t 5)),oq 30 (.mv (.t 5)),oq 31 (.nc (.t 30)),oq 32 (.fa 1 (.t 31)),oq 33 (.ld none (.t 32)),oq 34 (.mv (.t 0)),oq 35 (.mv (.t 6)),oq 36 (.bin .mul (.v (.int .i64 16)) (.t 35)),oq 37 (.bin .add (.v (.int .i64 4)) (.t 36)),oq 38 (.slfrom (false,1) (.t 34) (.t 37)),⟨some 39,none,.e (.call 146 [(.t 38)]),[⟨none,.ld none (.t 32),33⟩]⟩,oq 40 (.bslv 1 [(.t 39)]),oe 41 (.app 41 1 8 [(.int .u64 0)] (.t 33) (.t 40)),oq 42 (.nc (.t 29)),oq 43 (.fa 1 (.t 42)),oz (.store 1 (.t 43) (.t 41))]) (.ops [ oq 44 (.mv (.t 5)),oq 45 (.mv (.t 5)),oq 46 (.nc (.t 45)),oq 47 (.fa 2 (.t 46)),oq 48 (.ld none (.t 47)),oq 49 (.mv (.t 0)),oq 50 (.mv (.t 6)),oq 51 (.bin .mul (.v (.int .i64 16)) (.t 50)),oq 52 (.bin .add (.v (.int .i64 12)) (.t 51)),oq 53 (.slfrom (false,1) (.t 49) (.t 52)),⟨some 54,none,.e (.call 146 [(.t 53)]),[⟨none,.ld none (.t 47),48⟩]⟩,oq 55 (.bslv 1 [(.t 54)]),oe 56 (.app 41 1 8 [(.int .u64 0)] (.t 48) (.t 55)),oq 57 (.nc (.t 44)),oq 58 (.fa 2 (.t 57)),oz (.store 1 (.t 58) (.t 56))])))) (.ops [ oq 59 (.bin .add (.t 26) (.v (.int .i64 1))),oq 26 (.mv (.t 59))])))
def c92_36:ACode := .seq (.ops [ oq 78 (.bin .lss (.t 77) (.t 76))]) (.seq (.cond (.t 78) .skip (.exit 3)) (.seq (.block 4 (.seq (.ops [ oq 79 (.mv (.t 77)),oq 8 (.mv (.t 79))]) (.ops [ oq 80 (.mv (.t 7)),oq 81 (.mv (.t 7)),oq 82 (.nc (.t 81)),oq 83 (.fa 3 (.t 82)),oq 84 (.ld none (.t 83)),oq 85 (.mv (.t 0)),oq 86 (.mv (.t 8)),oq 87 (.bin .mul (.v (.int .i64 4)) (.t 86)),oq 88 (.bin .add (.v (.int .i64 4)) (.t 87)),oq 89 (.slfrom (false,1) (.t 85) (.t 88)),⟨some 90,none,.e (.call 147 [(.t 89)]),[⟨none,.ld none (.t 83),84⟩]⟩,oq 91 (.conv .i64 (.t 90)),oq 92 (.bslv 1 [(.t 91)]),oe 93 (.app 3 1 8 [(.int .i64 0)] (.t 84) (.t 92)),oq 94 (.nc (.t 80)),oq 95 (.fa 3 (.t 94)),oz (.store 1 (.t 95) (.t 93))]))) (.ops [ oq 96 (.bin .add (.t 77) (.v (.int .i64 1))),oq 77 (.mv (.t 96))])))
def c92_50:ACode := .seq (.ops [ oq 100 (.bin .lss (.t 99) (.t 98))]) (.seq (.cond (.t 100) .skip (.exit 5)) (.seq (.block 6 (.seq (.ops [ oq 101 (.mv (.t 99)),oq 9 (.mv (.t 101))]) (.ops [ oq 102 (.mv (.t 7)),oq 103 (.mv (.t 7)),oq 104 (.nc (.t 103)),oq 105 (.fa 1 (.t 104)),oq 106 (.ld none (.t 105)),oq 107 (.mv (.t 0)),oq 108 (.mv (.t 9)),oq 109 (.bin .mul (.v (.int .i64 8)) (.t 108)),oq 110 (.bin .add (.v (.int .i64 164)) (.t 109)),oq 111 (.slfrom (false,1) (.t 107) (.t 110)),⟨some 112,none,.e (.call 146 [(.t 111)]),[⟨none,.ld none (.t 105),106⟩]⟩,oq 113 (.bslv 1 [(.t 112)]),oe 114 (.app 41 1 8 [(.int .u64 0)] (.t 106) (.t 113)),oq 115 (.nc (.t 102)),oq 116 (.fa 1 (.t 115)),oz (.store 1 (.t 116) (.t 114))]))) (.ops [ oq 117 (.bin .add (.t 99) (.v (.int .i64 1))),oq 99 (.mv (.t 117))])))
def c92_68:ACode := .seq (.ops [ oq 2 (.mv (.v .nilp)),oq 3 (.mv (.v (.int .i64 0)))]) (.seq (.ops [ oq 10 (.mv (.t 0)),oq 11 (.ia 1 (.t 10) (.v (.int .i64 1))),oq 12 (.ld none (.t 11)),oq 13 (.conv .i64 (.t 12)),oq 4 (.mv (.t 13))]) (.seq (.block 0 (.seq (.ops [ oq 15 (.mv (.t 0)),oq 16 (.ia 1 (.t 15) (.v (.int .i64 0))),oq 17 (.ld none (.t 16)),oq 18 (.bin .eql (.t 17) (.v (.int .u8 1))),oq 19 (.mv (.t 18)),⟨some 20,some (19,true),.q (.mv (.t 4)),[]⟩,⟨some 21,some (19,true),.q (.bin .leq (.t 20) (.v (.int .i64 30))),[]⟩,oq 22 (.pick (.t 19) (.t 21) (.v (.bool false))),oq 14 (.mv (.t 22))]) (.cond (.t 14) (.seq (.ops [ oq 23 (.build [(.bool false),(.sl .full []),(.sl .full []),(.sl .full [])] [(0,1,(.v (.bool true)))]),oe 24 (.box (.t 23)),oq 5 (.mv (.t 24))]) (.seq (.seq (.ops [ oq 25 (.mv (.t 4)),oq 26 (.mv (.v (.int .i64 0)))]) (.block 1 (.loop c92_16))) (.seq (.ops [ oq 60 (.mv (.t 5)),oq 2 (.mv (.t 60)),oq 3 (.mv (.v (.int .i64 0)))]) .ret))) (.seq (.ops [ oq 62 (.mv (.t 0)),oq 63 (.ia 1 (.t 62) (.v (.int .i64 0))),oq 64 (.ld none (.t 63)),oq 65 (.bin .eql (.t 64) (.v (.int .u8 2))),oq 66 (.mv (.t 65)),⟨some 67,some (66,true),.q (.mv (.t 4)),[]⟩,⟨some 68,some (66,true),.q (.bin .geq (.t 67) (.v (.int .i64 2))),[]⟩,oq 69 (.pick (.t 66) (.t 68) (.v (.bool false))),oq 70 (.mv (.t 69)),⟨some 71,some (70,true),.q (.mv (.t 4)),[]⟩,⟨some 72,some (70,true),.q (.bin .leq (.t 71) (.v (.int .i64 40))),[]⟩,oq 73 (.pick (.t 70) (.t 72) (.v (.bool false))),oq 61 (.mv (.t 73))]) (.cond (.t 61) (.seq (.ops [ oq 74 (.build [(.bool false),(.sl .full []),(.sl .full []),(.sl .full [])] []),oe 75 (.box (.t 74)),oq 7 (.mv (.t 75))]) (.seq (.seq (.ops [ oq 76 (.mv (.t 4)),oq 77 (.mv (.v (.int .i64 0)))]) (.block 3 (.loop c92_36))) (.seq (.seq (.ops [ oq 97 (.mv (.t 4)),oq 98 (.bin .sub (.t 97) (.v (.int .i64 1))),oq 99 (.mv (.v (.int .i64 0)))]) (.block 5 (.loop c92_50))) (.seq (.ops [ oq 118 (.mv (.t 7)),oq 2 (.mv (.t 118)),oq 3 (.mv (.v (.int .i64 0)))]) .ret)))) .skip))))) (.seq (.ops [ oq 2 (.mv (.v .nilp)),oq 3 (.mv (.v (.int .i64 3)))]) .ret)))
@[go_sem] def c92_16_wp:=wp_of c92_16.eq_1
@[go_sem] def c92_36_wp:=wp_of c92_36.eq_1
@[go_sem] def c92_50_wp:=wp_of c92_50.eq_1
@[go_sem] def c92_68_wp:=wp_of c92_68.eq_1
def c92:AFn:=⟨119,[.t 2,.t 3],c92_68⟩
theorem c92_ok:compF Tryz.prog Tryz.f92=some c92:=by kernel_rfl
theorem a92 {args:List AV} {σ:ASt} {R:AV->ASt->Prop} (hl:args.length<=119) (h:c92_68.wp Tryz.prog (RetQ [.t 2,.t 3] R) (init args) σ):ACalls Tryz.prog 92 args σ R:=acalls_of Tryz.func92 c92_ok hl h
end Go.A
namespace Go.A
open Go.Proofs
def Kept (σ σ':ASt):Prop:=∀ x r,σ x=some r->σ' x=some r
theorem Kept.refl (σ:ASt):Kept σ σ:=fun _ _ h=>h
theorem Kept.trans {σ1 σ2 σ3:ASt} (h:Kept σ1 σ2) (k:Kept σ2 σ3):Kept σ1 σ3:=fun x r hx=>k x r (h x r hx)
theorem Kept.set {σ σ':ASt} (h:Kept σ σ') {x:Nat} {r:Option Role} (hx:σ x=none):Kept σ (σ'.set x r):=fun y q hy=>by
 rw [ASt.set_ne (fun e=>by rw [e,hx] at hy;cases hy)]
 exact h y q hy
theorem Kept.gone {σ σ':ASt} (h:Kept σ σ') {x:Nat} (hx:σ' x=none):σ x=none:=by
 cases hc:σ x with
 | none=>rfl
 | some r=>rw [h x r hc] at hx;cases hx
structure LeafM (σ0 σ:ASt) (n:Nat) (a b:AV) (ks vs:List Nat):Prop where
 kept:Kept σ0 σ
 new:σ0 n=none
 hn:σ n=some (.obj [.bool true,a,b,.sl .full []])
 ha:OwnR σ0 σ .u64 a ks
 hb:OwnR σ0 σ .u64 b vs
 na:blkV a≠some n
 nb:blkV b≠some n
 ab:∀ x,blkV a=some x->blkV b≠some x
theorem byte_small {n:Nat} (h:n<=200):((UInt8.ofNat n).toNat:Int)=(n:Int):=by rw [UInt8.toNat_ofNat'];omega
section
variable {σ:ASt} {X n c:Nat} {b:List UInt8} {ks vs ds:List Nat}
set_option maxHeartbeats 2000000 in
theorem trdec_leaf (hX:σ X=some (.obj (bytesAV b))) (hc:504<=c) (ht:TLeaf b ks vs) :
  ACalls Tryz.prog 92 [.msl X 0 504 c] σ fun r σ'=>∃ n x y,r = .tuple [.ptr n 0,.int .i64 0]/\LeafM σ σ' n x y ks vs:=by
 obtain ⟨hb,h0,h1,hv,hm,hku,hvu,hk,hvv⟩:=ht
 have g0:(bytesAV b)[0]? = some (.int .u8 1):=by rw [bytesAV_get,h0];rfl
 have g1:(bytesAV b)[1]? = some (.int .u8 (ks.length:Int)):=by rw [bytesAV_get,h1];show some (AV.int .u8 ((UInt8.ofNat ks.length).toNat:Int))=_;rw [byte_small (by omega)]
 have hXb:=hX
 generalize hM:bytesAV b=M at hX g0 g1
 generalize hL:ks.length=L at *
 have hL':(L:Int)<=30:=by omega
 have z0:(0:Int).toNat=0:=rfl
 have z1:(1:Int).toNat=1:=rfl
 refine a92 (by simp) ?_
 simp (disch:=first|assumption|omega|(simp only [List.length_append,List.length_cons,List.length_nil];omega)) only [go_sem,hX,g0,g1,z0,z1,Nat.zero_add]
 refine boxC_by rfl fun n hn=>?_
 simp (disch:=first|assumption|omega|(simp only [List.length_append,List.length_cons,List.length_nil];omega)) only [go_sem]
 have hXn:X≠n:=fun e=>by rw [e,hn] at hX;cases hX
 obtain ⟨J,hJ⟩:∃ J:Nat->AFr->ASt->Prop,J=fun i a1 s2=>i<=L/\(a1 0 = .msl X 0 504 c/\a1 5 = .ptr n 0/\a1 25 = .int .i64 L/\a1 26 = .int .i64 i)/\∃ x y,LeafM σ s2 n x y (ks.take i) (vs.take i):=⟨_,rfl⟩
 refine wp_loop_on J (fun i=>L-i) 0 ?_ ?_
 ·rw [hJ]
  refine ⟨Nat.zero_le _,?_,.sl .full [],.sl .full [],⟨(Kept.refl σ).set hn,hn,ASt.set_same _ _ _,OwnR.nil _ _ _,OwnR.nil _ _ _,(by intro h;cases h),(by intro h;cases h),(by intro x h;cases h)⟩⟩
  simp (disch:=first|assumption|omega|(simp only [List.length_append,List.length_cons,List.length_nil];omega)) only [go_sem]
 intro i a1 s2 hj
 rw [hJ] at hj
 obtain ⟨hi,hf,x,y,hm2⟩:=hj
 have hs2n:=hm2.hn
 have hs2X:=hm2.kept _ _ hXb
 by_cases hlt:i<L
 ·have hlt':(i:Int)<(L:Int):=by omega
  obtain ⟨k,hk1⟩:∃ k,ks[i]? = some k:=⟨_,List.getElem?_eq_getElem (by omega)⟩
  obtain ⟨v,hv1⟩:∃ v,vs[i]? = some v:=⟨_,List.getElem?_eq_getElem (by omega)⟩
  have hs1:slV (false,1) (.msl X 0 504 c) (4+16*(i:Int)) 504=some (.msl X (4+16*i) (504-(4+16*i)) (c-(4+16*i))):=slV_page (o:=4+16*i) (by omega) hc
  have hs2:slV (false,1) (.msl X 0 504 c) (12+16*(i:Int)) 504=some (.msl X (12+16*i) (504-(12+16*i)) (c-(12+16*i))):=slV_page (o:=12+16*i) (by omega) hc
  have ku:=hku k (List.mem_of_getElem? hk1)
  have vu:=hvu v (List.mem_of_getElem? hv1)
  have c1:=mu64_ok (c:=c-(4+16*i)) (n:=504-(4+16*i)) hs2X (hk i k hk1) (by omega) (by omega) ku
  have tk:=take_snoc hk1
  have tv:=take_snoc hv1
  have hlk:(ks.take i).length<=10000:=by rw [List.length_take];omega
  have hlv:(vs.take i).length<=10000:=by rw [List.length_take];omega
  simp (disch:=first|assumption|omega|(simp only [List.length_append,List.length_cons,List.length_nil];omega)) only [go_sem,hf,hlt',hs2n,hs1]
  refine c1.mono ?_
  rintro r s3 ⟨rfl,rfl⟩
  simp (disch:=first|assumption|omega|(simp only [List.length_append,List.length_cons,List.length_nil];omega)) only [go_sem,hs2n]
  refine hm2.ha.app (fun z hz=>hm2.kept.gone hz) (by omega) fun x' X1 r hx1 hor hown=>?_
  have hX1σ:σ X1=none:=by
   rcases hor with h|h
   ·exact (hm2.ha.blk h).2
   ·exact hm2.kept.gone h
  have hX1n:n≠X1:=by
   rcases hor with h|h
   ·exact fun e=>hm2.na (by rw [e];exact h)
   ·exact fun e=>by rw [<-e,hs2n] at h;cases h
  have hX1y:blkV y≠some X1:=by
   rcases hor with h|h
   ·exact hm2.ab _ h
   ·intro hy
    obtain ⟨⟨cs,h2⟩,_⟩:=hm2.hb.blk hy
    rw [h] at h2;cases h2
  rw [tk] at hown
  have m3:LeafM σ ((s3.set X1 (some r)).set n (some (.obj [.bool true,x',y,.sl .full []]))) n x' y (ks.take (i+1)) (vs.take i):=by
   refine ⟨(hm2.kept.set hX1σ).set hm2.new,hm2.new,ASt.set_same _ _ _,hown.set (by rw [hx1];intro h;exact hX1n (Option.some.inj h).symm),(hm2.hb.set hX1y).set hm2.nb,by rw [hx1];intro h;exact hX1n (Option.some.inj h).symm,hm2.nb,?_⟩
   intro z hz
   rw [hx1] at hz
   rw [<-Option.some.inj hz]
   exact hX1y
  have hn3:=m3.hn
  have hX3:=m3.kept _ _ hXb
  obtain ⟨xc,xl,xa⟩:=hown.cell
  simp (disch:=first|assumption|omega|(simp only [List.length_append,List.length_cons,List.length_nil];omega)) only [go_sem,hf,hs2n,xc,xl,hs2]
  generalize (s3.set X1 (some r)).set n (some (.obj [.bool true,x',y,.sl .full []]))=s4 at *
  have c2:=mu64_ok (c:=c-(12+16*i)) (n:=504-(12+16*i)) hX3 (hvv i v hv1) (by omega) (by omega) vu
  refine c2.mono ?_
  rintro r2 s5 ⟨rfl,rfl⟩
  simp (disch:=first|assumption|omega|(simp only [List.length_append,List.length_cons,List.length_nil];omega)) only [go_sem,hn3]
  refine m3.hb.app (fun z hz=>m3.kept.gone hz) (by omega) fun y' Y1 q hy1 hoy howny=>?_
  have hY1σ:σ Y1=none:=by
   rcases hoy with h|h
   ·exact (m3.hb.blk h).2
   ·exact m3.kept.gone h
  have hY1n:n≠Y1:=by
   rcases hoy with h|h
   ·exact fun e=>m3.nb (by rw [e];exact h)
   ·exact fun e=>by rw [<-e,hn3] at h;cases h
  have hY1x:blkV x'≠some Y1:=by
   rcases hoy with h|h
   ·intro hx
    exact m3.ab _ hx h
   ·intro hx
    obtain ⟨⟨cs,h2⟩,_⟩:=m3.ha.blk hx
    rw [h] at h2;cases h2
  rw [tv] at howny
  have m5:LeafM σ ((s5.set Y1 (some q)).set n (some (.obj [.bool true,x',y',.sl .full []]))) n x' y' (ks.take (i+1)) (vs.take (i+1)):=by
   refine ⟨(m3.kept.set hY1σ).set m3.new,m3.new,ASt.set_same _ _ _,(m3.ha.set hY1x).set m3.na,howny.set (by rw [hy1];intro h;exact hY1n (Option.some.inj h).symm),m3.na,by rw [hy1];intro h;exact hY1n (Option.some.inj h).symm,?_⟩
   intro z hz hz2
   rw [hy1] at hz2
   rw [<-Option.some.inj hz2] at hz
   exact hY1x hz
  obtain ⟨yc,yl,ya⟩:=howny.cell
  simp (disch:=first|assumption|omega|(simp only [List.length_append,List.length_cons,List.length_nil];omega)) only [go_sem,hf,hn3,yc,yl]
  refine ⟨i+1,by omega,?_⟩
  rw [hJ]
  refine ⟨by omega,?_,x',y',m5⟩
  simp (disch:=first|assumption|omega|(simp only [List.length_append,List.length_cons,List.length_nil];omega)) only [go_sem,hf]
 ·have hlt':¬ (i:Int)<(L:Int):=by omega
  obtain rfl:i=L:=by omega
  rw [List.take_of_length_le (by omega),List.take_of_length_le (by omega)] at hm2
  simp (disch:=first|assumption|omega|(simp only [List.length_append,List.length_cons,List.length_nil];omega)) only [go_sem,hf,hlt']
  exact retC_by (.refl _) (.refl _) ⟨n,x,y,rfl,hm2⟩
end
end Go.A
end
