/- Part 3 of what TabularStores leans on: Bi Bk. -/
import Derived.Defers
import Derived.Test.YtngcggpbajgigaaGreatDoorZTabularStoresb
set_option linter.defProp false
set_option linter.unusedSimpArgs false
set_option linter.unusedVariables false
set_option maxRecDepth 100000
namespace Go.A
open Classical
def Opd.look:Opd->List Nat
 | .t s => [s]
 | .v _ => []
def QOp.opds:QOp->List Opd
 | .mv x | .un _ x | .conv _ x | .s2s x | .s2b x | .b2s x | .i2s x | .r2s x | .fld _ _ x | .fa _ x | .ld _ x | .nc x | .len x | .lenS x | .ext _ x | .mki _ x | .slall _ x | .sla _ x | .ta _ _ _ x | .box x | .capo x => [x]
 | .pick c x y => [c,x,y]
 | .bin _ x y | .eq _ _ x y | .eqs _ _ x y | .ia _ x y | .iaa _ _ x y | .idx x y | .slfrom _ x y | .slto _ x y | .mnx _ x y | .mget x y | .mgets _ x y => [x,y]
 | .sls _ x y z => [x,y,z]
 | .sl3 _ x y z u => [x,y,z,u]
 | .build _ ps=>ps.map (·.2.2)
 | .bsl _ xs=>xs
 | .bslv _ xs=>xs
 | .mkf _ f c=>f++c
def QOp.looks (q:QOp):List Nat:=q.opds.flatMap Opd.look
theorem QOp.ev_congr {q:QOp} {a a':AFr} {σ:ASt} (h:∀ t∈q.looks,a t=a' t):q.ev a σ=q.ev a' σ:=by
 have ho:∀ x∈q.opds,x.ev a=x.ev a':=by
  intro x hx
  cases x with
  | v y=>rfl
  | t s=>exact h s (List.mem_flatMap.2 ⟨_,hx,by simp [Opd.look]⟩)
 have hm:∀ xs:List Opd,(∀ x∈xs,x∈q.opds)->xs.map (·.ev a)=xs.map (·.ev a'):=fun xs hxs=>List.map_congr_left fun x hx=>ho x (hxs x hx)
 cases q<;>simp only [QOp.opds,List.mem_cons,List.not_mem_nil,or_false,forall_eq_or_imp,forall_eq] at ho<;>simp only [QOp.ev]
 case build z ps=>
  congr 2
  apply List.map_congr_left
  intro p hp
  rw [ho p.2.2 (List.mem_map.2 ⟨p,hp,rfl⟩)]
 case bsl s xs=>rw [hm xs fun x hx=>hx]
 case bslv s xs=>rw [hm xs fun x hx=>hx]
 case mkf fn f c=>
  rw [hm f fun x hx=>by simp [QOp.opds,hx],hm c fun x hx=>by simp [QOp.opds,hx]]
 all_goals simp only [ho]
structure RegOk (l:List Oper) (eff:Nat->Bool) (looks:Nat->List Nat) (bit:Nat->Nat->Bool):Prop where
 listed:∀ (listed:Array Bool) (j:Nat) (o:Oper),RegClosed .any l.toArray listed->l[j]? = some o->(∀ e∈o.after,Region.binds .any e=true->listed.getD e.on false=true)->∀ i,bit j i=true->listed.getD i false=true
 down:∀ (j:Nat) (o:Oper),l[j]? = some o->∀ e∈o.after,Region.binds .any e=true->e.on<j
 lt:∀ i j,i<l.length->bit i j=true->j<i
 temps:∀ (i j t:Nat) (o:Oper),i<l.length->t∈looks i->l[j]? = some o->o.dst=some t->j≠i/\(bit i j=true\/bit j i=true)
 uniq:∀ (i j t:Nat) (oi oj:Oper),l[i]? = some oi->l[j]? = some oj->oi.dst=some t->oj.dst=some t->i=j
section
variable {P:Program} {n:Nat} {D:List Deferred} {l:List Oper} {π:List Nat} {eff:Nat->Bool} {looks:Nat->List Nat} {bit:Nat->Nat->Bool} {al:Nat->Bool} {item:Nat->AItem}
def Dst (l:List Oper) (i t:Nat):Prop:=∃ o:Oper,l[i]? = some o/\o.dst=some t
noncomputable def mix (l:List Oper) (bit:Nat->Nat->Bool) (a0 a:AFr) (i:Nat):AFr:=fun t=>if ∃ j,bit i j=true/\Dst l j t then a t else a0 t
noncomputable def cur (l:List Oper) (a0 a:AFr) (pre:List Nat) (L:Array Bool):AFr:=fun t=>if ∃ i∈pre,L.getD i false=false/\Dst l i t then a0 t else a t
def Pend (l:List Oper) (bit:Nat->Nat->Bool) (item:Nat->AItem) (a0 a:AFr) (σ:ASt) (i:Nat):Prop:=
 ∃ q,(item i).op = .q q/\match (item i).guard with
  | none=>∃ v,q.ev (mix l bit a0 a i) σ=some v/\∀ d,Dst l i d->a d=v
  | some (t,want)=>∃ b,(mix l bit a0 a i t).word=some b/\(b=some want->∃ v,q.ev (mix l bit a0 a i) σ=some v/\∀ d,Dst l i d->a d=v)/\(b≠some want->∀ d,Dst l i d->a d = .tuple [])
structure ItemsOk (P:Program) (n:Nat) (l:List Oper) (eff:Nat->Bool) (looks:Nat->List Nat) (al:Nat->Bool) (item:Nat->AItem):Prop where
 comp:∀ (i:Nat) (o:Oper),l[i]? = some o->compI P n l o=some { item i with watch := [] }
 effI:∀ i,i<l.length->(eff i=false↔∃ q,(item i).op = .q q)
 quiet:∀ i,i<l.length->eff i=false->(item i).watch = []
 looksQ:∀ i q,i<l.length->(item i).op = .q q->∀ t∈q.looks,t∈looks i
 looksO:∀ (i:Nat) (o:Oper) (t:Nat),l[i]? = some o->Operand.tmp t∈o.op.operands.toList->t∈looks i
 looksG:∀ i t b,i<l.length->(item i).guard=some (t,b)->t∈looks i
 alI:∀ i,i<l.length->al i=true->∃ d z,item i=⟨d,none,.e (.alloc z),[]⟩
def Watched (l:List Oper) (looks:Nat->List Nat) (bit:Nat->Nat->Bool) (item:Nat->AItem) (pre:List Nat) (e:Nat) (ws:List Watch):Prop:=
 ∀ i∈pre,∀ q,(item i).op = .q q->q.reads=true->bit e i=false →
  (∃ d,Dst l i d/\({ guard:=(item i).guard,q:=q,dst:=d }:Watch)∈ws)/\∀ t∈looks i,∀ j,Dst l j t->bit i j=true
theorem watchOk_mem {a:AFr} {σ:ASt}:∀ {ws:List Watch},watchOk a σ ws->∀ x∈ws,match x.guard with
  | none=>x.q.ev a σ=some (a x.dst)
  | some (t,want)=>a t = .bool want->x.q.ev a σ=some (a x.dst)
 | [],_,x,hx=>by cases hx
 | y::ws,h,x,hx=>by
   rcases List.mem_cons.1 hx with rfl|hx
   ·exact h.1
   ·exact watchOk_mem h.2 x hx
structure Inv (P:Program) (n:Nat) (D:List Deferred) (l:List Oper) (eff:Nat->Bool) (bit:Nat->Nat->Bool) (item:Nat->AItem) (a0:AFr) (σ0:ASt) (w0:World) (L:Array Bool) (act:Act) (w:World)
  (pre:List Nat) (a:AFr) (σ:ASt):Prop where
 bnd:∀ i∈pre,i<l.length
 down:∀ j∈pre,∀ i,bit j i=true->i∈pre
 effL:∀ i∈pre,eff i=true->L.getD i false=true
 postL:∀ i,i ∉ pre->L.getD i false=false
 closed:RegClosed .any l.toArray L
 size:L.size=l.length
 sim:Sim σ w
 le:Le σ0 w0 σ w
 actOk:act.tmps.size=n/\act.defers=D
 rep:∀ t,t<n->Rep σ w (cur l a0 a pre L t) (act.tmps.getD t undef)
 pend:∀ i∈pre,L.getD i false=false->Pend l bit item a0 a σ i
 old:∀ t,(∀ i∈pre,¬ Dst l i t)->a t=a0 t
theorem put_ne {a:AFr} {t:Option Nat} {v:AV} {s:Nat} (h:∀ d,t=some d->s≠d):a.put t v s=a s:=by
 cases t with
 | none=>rfl
 | some d=>simp [AFr.put,AFr.upd,h d rfl]
theorem put_eq {a:AFr} {v:AV} {d:Nat}:a.put (some d) v d=v:=by simp [AFr.put,AFr.upd]
variable {a0:AFr} {σ0:ASt} {w0:World}
theorem item_dst (hI:ItemsOk P n l eff looks al item) {i:Nat} (hi:i<l.length):∃ o,l[i]? = some o/\(item i).dst=o.dst/\compI P n l o=some { item i with watch := [] }:=by
 obtain ⟨o,ho⟩:∃ o,l[i]? = some o:=⟨l[i],by simp [hi]⟩
 exact ⟨o,ho,(compI_spec (hI.comp i o ho)).1,hI.comp i o ho⟩
theorem item_Dst (hI:ItemsOk P n l eff looks al item) {i d:Nat} (hi:i<l.length):Dst l i d↔(item i).dst=some d:=by
 obtain ⟨o,ho,h1,_⟩:=item_dst hI hi
 constructor
 ·rintro ⟨o',h2,h3⟩;rw [ho] at h2;injection h2 with h2;subst h2;rw [h1,h3]
 ·intro h;exact ⟨o,ho,by rw [<-h1,h]⟩
theorem Dst.uniq (hP:RegOk l eff looks bit) {i j t:Nat} (h:Dst l i t) (k:Dst l j t):i=j:=by
 obtain ⟨o,h1,h2⟩:=h;obtain ⟨o',h3,h4⟩:=k
 exact hP.uniq i j t o o' h1 h3 h2 h4
theorem Dst.lt {i t:Nat} (h:Dst l i t):i<l.length:=by
 obtain ⟨o,h1,_⟩:=h;exact (List.getElem?_eq_some_iff.1 h1).1
theorem Inv.advance1 (hP:RegOk l eff looks bit) (hI:ItemsOk P n l eff looks al item) {L:Array Bool} {act:Act} {w:World} {pre:List Nat} {i:Nat} {a:AFr} {σ:ASt}
  (h:Inv P n D l eff bit item a0 σ0 w0 L act w pre a σ) (hil:i<l.length) (hipre:i ∉ pre) (he:eff i=false) (hbs:∀ j,bit i j=true->j∈pre) {X:AFr->ASt->Prop} (hrun:stepI P (item i) X a σ):∃ a',Inv P n D l eff bit item a0 σ0 w0 L act w (pre ++ [i]) a' σ/\X a' σ:=by
 obtain ⟨o,ho,hod,hcomp⟩:=item_dst hI hil
 obtain ⟨q,hq⟩:=(hI.effI i hil).1 he
 have hwt:=hI.quiet i hil he
 have look:∀ (v:AV) t,t∈looks i->mix l bit a0 (a.put (item i).dst v) i t=a t:=by
  intro v t ht
  have hne:∀ d,(item i).dst=some d->t≠d:=fun d hd htd=>by
   subst htd
   exact (hP.temps i i t o hil ht ho (by rw [<-hod];exact hd)).1 rfl
  unfold mix
  split
  ·exact put_ne hne
  ·rename_i hno
   refine (h.old t fun j hj hD=>hno ⟨j,?_,hD⟩).symm
   obtain ⟨o',h1,h2⟩:=hD
   rcases (hP.temps i j t o' hil ht h1 h2).2 with hb|hb
   ·exact hb
   ·exact absurd (h.down j hj i hb) hipre
 have key:∀ v:AV,X (a.put (item i).dst v) σ →
   (match (item i).guard with
    | none=>∃ v',q.ev a σ=some v'/\v=v'
    | some (t,want)=>∃ b,(a t).word=some b/\(b=some want->∃ v',q.ev a σ=some v'/\v=v')/\(b≠some want->v = .tuple [])) →
   ∃ a',Inv P n D l eff bit item a0 σ0 w0 L act w (pre ++ [i]) a' σ/\X a' σ:=by
  intro v hrun hval
  refine ⟨a.put (item i).dst v,⟨?_,?_,?_,?_,h.closed,h.size,h.sim,h.le,h.actOk,?_,?_,?_⟩,hrun⟩
  ·intro j hj
   rcases List.mem_append.1 hj with hj|hj
   ·exact h.bnd j hj
   ·simp at hj;subst hj;exact hil
  ·intro j hj k hk
   rcases List.mem_append.1 hj with hj|hj
   ·exact List.mem_append_left _ (h.down j hj k hk)
   ·simp at hj;subst hj;exact List.mem_append_left _ (hbs k hk)
  ·intro j hj hjE
   rcases List.mem_append.1 hj with hj|hj
   ·exact h.effL j hj hjE
   ·simp at hj;subst hj;rw [he] at hjE;cases hjE
  ·exact fun j hj=>h.postL j fun hm=>hj (by simp [hm])
  ·intro t ht
   have h1:=h.rep t ht
   by_cases hD:Dst l i t
   ·have h2:cur l a0 (a.put (item i).dst v) (pre ++ [i]) L t=a0 t:=if_pos ⟨i,by simp,h.postL i hipre,hD⟩
    have h3:cur l a0 a pre L t=a0 t:=by
     unfold cur
     split
     ·rfl
     ·refine h.old t fun j hj hDj=>hipre ?_
      rw [hD.uniq hP hDj];exact hj
    rw [h2];rw [h3] at h1;exact h1
   ·have h2:cur l a0 (a.put (item i).dst v) (pre ++ [i]) L t=cur l a0 a pre L t:=by
     unfold cur
     have h3:a.put (item i).dst v t=a t:=put_ne fun d hd htd=>hD (by subst htd;exact (item_Dst hI hil).2 hd)
     rw [h3]
     by_cases hex:∃ j∈pre,L.getD j false=false/\Dst l j t
     ·obtain ⟨j,hj,hjL,hjD⟩:=hex
      rw [if_pos ⟨j,by simp [hj],hjL,hjD⟩,if_pos ⟨j,hj,hjL,hjD⟩]
     ·rw [if_neg hex,if_neg]
      rintro ⟨j,hj,hjL,hjD⟩
      rcases List.mem_append.1 hj with hj|hj
      ·exact hex ⟨j,hj,hjL,hjD⟩
      ·simp at hj;subst hj;exact hD hjD
    rw [h2];exact h1
  ·intro j hj hjL
   rcases List.mem_append.1 hj with hj|hj
   ·have h1:=h.pend j hj hjL
    have hji:j≠i:=fun e=>hipre (e▸hj)
    have hjl:j<l.length:=h.bnd j hj
    have hbit:bit j i=false:=by
     cases hb:bit j i with
     | false=>rfl
     | true=>exact absurd (h.down j hj i hb) hipre
    have hmix:mix l bit a0 (a.put (item i).dst v) j=mix l bit a0 a j:=by
     funext t
     unfold mix
     split
     ·rename_i hex
      obtain ⟨k,hk,hkD⟩:=hex
      refine put_ne fun d hd htd=>?_
      subst htd
      have:k=i:=hkD.uniq hP ((item_Dst hI hil).2 hd)
      subst this
      rw [hbit] at hk;cases hk
     ·rfl
    have hkeep:∀ d,Dst l j d->a.put (item i).dst v d=a d:=fun d hd=>put_ne fun d' hd' hdd=>hji (by
     subst hdd;exact hd.uniq hP ((item_Dst hI hil).2 hd'))
    obtain ⟨q',hq',hp'⟩:=h1
    refine ⟨q',hq',?_⟩
    rw [hmix]
    split
    ·rename_i hg
     rw [hg] at hp'
     obtain ⟨v',hv',hd'⟩:=hp'
     exact ⟨v',hv',fun d hd=>(hkeep d hd).trans (hd' d hd)⟩
    ·rename_i t want hg
     rw [hg] at hp'
     obtain ⟨b,hb,h2,h3⟩:=hp'
     exact ⟨b,hb,fun e=>let ⟨v',hv',hd'⟩:=h2 e; ⟨v',hv',fun d hd=>(hkeep d hd).trans (hd' d hd)⟩,fun e d hd=>(hkeep d hd).trans (h3 e d hd)⟩
   ·simp at hj;subst hj
    have hqe:q.ev (mix l bit a0 (a.put (item j).dst v) j) σ=q.ev a σ:=QOp.ev_congr fun t ht=>look v t (hI.looksQ j q hil hq t ht)
    have hput:∀ d,Dst l j d->a.put (item j).dst v d=v:=fun d hd=>by rw [(item_Dst hI hil).1 hd];exact put_eq
    refine ⟨q,hq,?_⟩
    split
    ·rename_i hg
     rw [hg] at hval
     obtain ⟨v',hv',rfl⟩:=hval
     exact ⟨v,by rw [hqe];exact hv',hput⟩
    ·rename_i t want hg
     rw [hg] at hval
     obtain ⟨b,hb,h2,h3⟩:=hval
     refine ⟨b,by rw [look v t (hI.looksG j t want hil hg)];exact hb,fun e=>?_,fun e d hd=>(hput d hd).trans (h3 e)⟩
     obtain ⟨v',hv',rfl⟩:=h2 e
     exact ⟨v,by rw [hqe];exact hv',hput⟩
  ·intro t ht
   have h1:a.put (item i).dst v t=a t:=put_ne fun d hd htd=>ht i (by simp) (by subst htd;exact (item_Dst hI hil).2 hd)
   rw [h1]
   exact h.old t fun j hj=>ht j (by simp [hj])
 unfold stepI at hrun
 split at hrun
 ·rename_i hg
  unfold AItem.step at hrun
  rw [hq] at hrun
  simp only [AOp.step] at hrun
  split at hrun
  ·rename_i v hv
   refine key v hrun.2 ?_
   rw [hg]
   exact ⟨v,hv,rfl⟩
  ·exact hrun.elim
 ·rename_i t want hg
  split at hrun
  ·rename_i b hb
   split at hrun
   ·rename_i hbw
    unfold AItem.step at hrun
    rw [hq] at hrun
    simp only [AOp.step] at hrun
    split at hrun
    ·rename_i v hv
     refine key v hrun.2 ?_
     rw [hg]
     exact ⟨b,hb,fun _=>⟨v,hv,rfl⟩,fun e=>absurd hbw e⟩
    ·exact hrun.elim
   ·rename_i hbw
    refine key (.tuple []) hrun ?_
    rw [hg]
    exact ⟨b,hb,fun e=>absurd e hbw,fun _=>rfl⟩
  ·exact hrun.elim
theorem QOp.ev_fresh {q:QOp} {a:AFr} {σ:ASt} {b:Nat} {r:Option Role} {v:AV} (hb:σ b=none) (h:q.ev a σ=some v):q.ev a (σ.set b r)=some v:=by
 have hk:∀ c cs,known σ c=some cs->known (σ.set b r) c=some cs:=by
  intro c cs hc
  have hne:c≠b:=by rintro rfl;unfold known at hc;rw [hb] at hc;cases hc
  unfold known at hc ⊢
  rw [ASt.set_ne hne]
  exact hc
 have hk2:∀ c l,mapAt σ c=some l->mapAt (σ.set b r) c=some l:=by
  intro c l hc
  have hne:c≠b:=by rintro rfl;unfold mapAt at hc;rw [hb] at hc;cases hc
  unfold mapAt at hc ⊢
  rw [ASt.set_ne hne]
  exact hc
 have hk3:∀ c l,mapsAt σ c=some l->mapsAt (σ.set b r) c=some l:=by
  intro c l hc
  have hne:c≠b:=by rintro rfl;unfold mapsAt at hc;rw [hb] at hc;cases hc
  unfold mapsAt at hc ⊢
  rw [ASt.set_ne hne]
  exact hc
 cases hr:q.reads with
 | false=>rw [<-h];exact QOp.ev_still hr _ _ _
 | true=>
   cases q<;>simp only [QOp.reads,Bool.false_eq_true,reduceCtorEq] at hr
   all_goals
    simp only [QOp.ev] at h ⊢
    split at h<;>(try exact h)
    split at h<;>(try cases h;done)
    rename_i cs hc
    first
     | (rw [hk _ _ hc];exact h)
     | (rw [hk2 _ _ hc];exact h)
     | (rw [hk3 _ _ hc];exact h)
end
end Go.A
namespace Go.A
open Classical
section
variable {P:Program} {n:Nat} {D:List Deferred} {l:List Oper} {eff:Nat->Bool} {looks:Nat->List Nat} {bit:Nat->Nat->Bool} {al:Nat->Bool} {item:Nat->AItem}
variable {a0:AFr} {σ0:ASt} {w0:World} {L:Array Bool} {act:Act} {w:World} {pre:List Nat} {a:AFr} {σ:ASt}
theorem ready_bits (hP:RegOk l eff looks bit) (hc:RegClosed .any l.toArray L) {i:Nat} (hr:i∈Region.ready .any l.toArray L) {j:Nat} (hb:bit i j=true):L.getD j false=true:=by
 obtain ⟨_,o,ho,hall⟩:=mem_ready.1 hr
 exact hP.listed L i o hc (by simpa using ho) hall j hb
theorem listed_bits (hP:RegOk l eff looks bit) (hc:RegClosed .any l.toArray L) {i:Nat} (hi:i<l.length) (hL:L.getD i false=true) {j:Nat} (hb:bit i j=true):L.getD j false=true:=by
 obtain ⟨o,ho⟩:∃ o,l[i]? = some o:=⟨l[i],by simp [hi]⟩
 exact hP.listed L i o hc ho (hc i o (by simpa using ho) hL) j hb
theorem ready_un {i:Nat} (hs:L.size=l.length) (hr:i∈Region.ready .any l.toArray L):i<l.length/\L.getD i false=false:=by
 obtain ⟨h0,o,ho,_⟩:=mem_ready.1 hr
 have hi:i<l.length:=by simpa using (Array.getElem?_eq_some_iff.1 ho).1
 refine ⟨hi,?_⟩
 have hi':i<L.size:=by omega
 simp only [Array.getD,hi',dif_pos] at h0 ⊢
 exact h0
theorem set_same {i:Nat} (hi:i<L.size):(L.setIfInBounds i true).getD i false=true:=by simp [hi]
theorem Inv.look (hP:RegOk l eff looks bit) (h:Inv P n D l eff bit item a0 σ0 w0 L act w pre a σ) {i:Nat} (hr:i∈Region.ready .any l.toArray L) {t:Nat} (ht:t∈looks i) (htn:t<n) :
  Rep σ w (mix l bit a0 a i t) (act.tmps.getD t undef):=by
 obtain ⟨hi,hun⟩:=ready_un h.size hr
 have h1:=h.rep t htn
 have e:mix l bit a0 a i t=cur l a0 a pre L t:=by
  unfold mix cur
  by_cases hex:∃ j,bit i j=true/\Dst l j t
  ·rw [if_pos hex]
   obtain ⟨j,hj,hjD⟩:=hex
   rw [if_neg]
   rintro ⟨k,hk,hkL,hkD⟩
   have:k=j:=hkD.uniq hP hjD
   subst this
   rw [ready_bits hP h.closed hr hj] at hkL
   cases hkL
  ·rw [if_neg hex]
   split
   ·rfl
   ·rename_i hno
    refine (h.old t fun k hk hkD=>hno ⟨k,hk,?_,hkD⟩).symm
    obtain ⟨o,ho1,ho2⟩:=hkD
    rcases (hP.temps i k t o hi ht ho1 ho2).2 with hb|hb
    ·exact absurd ⟨k,hb,o,ho1,ho2⟩ hex
    ·cases hL:L.getD k false with
     | false=>rfl
     | true=>
       have:=listed_bits hP h.closed (Dst.lt ⟨o,ho1,ho2⟩) hL hb
       rw [hun] at this;cases this
 rw [e];exact h1
theorem cur_put_pending (hP:RegOk l eff looks bit) (hI:ItemsOk P n l eff looks al item) (hs:L.size=l.length) {i:Nat} (hi:i<l.length) {v:AV} (hv:∀ d,Dst l i d->a d=v) :
  cur l a0 a pre (L.setIfInBounds i true)=(cur l a0 a pre L).put (item i).dst v:=by
 funext t
 by_cases hD:Dst l i t
 ·rw [(item_Dst hI hi).1 hD,put_eq]
  unfold cur
  rw [if_neg,hv t hD]
  rintro ⟨k,hk,hkL,hkD⟩
  have:k=i:=hkD.uniq hP hD
  subst this
  rw [set_same (by omega)] at hkL
  cases hkL
 ·rw [put_ne fun d hd htd=>hD (by subst htd;exact (item_Dst hI hi).2 hd)]
  unfold cur
  congr 1
  apply propext
  constructor
  ·rintro ⟨k,hk,hkL,hkD⟩
   have hki:i≠k:=fun e=>hD (e▸hkD)
   rw [getD_set_ne false hki] at hkL
   exact ⟨k,hk,hkL,hkD⟩
  ·rintro ⟨k,hk,hkL,hkD⟩
   have hki:i≠k:=fun e=>hD (e▸hkD)
   exact ⟨k,hk,by rw [getD_set_ne false hki];exact hkL,hkD⟩
theorem Inv.pending (hP:RegOk l eff looks bit) (hI:ItemsOk P n l eff looks al item) (h:Inv P n D l eff bit item a0 σ0 w0 L act w pre a σ) {i:Nat} (hr:i∈Region.ready .any l.toArray L) (hip:i∈pre)
  {v:AV} (hv:∀ d,Dst l i d->a d=v) {u:Value} {w':World} (hle:Le σ w σ w') (hs:Sim σ w') (hu:Rep σ w' v u) :
  Inv P n D l eff bit item a0 σ0 w0 (L.setIfInBounds i true) (act.put (item i).dst u) w' pre a σ:=by
 obtain ⟨hi,hun⟩:=ready_un h.size hr
 obtain ⟨o,ho,hod,hcomp⟩:=item_dst hI hi
 have hdn:=(compI_spec hcomp).2.2.2.2.1
 have hF:FRel n D σ w (cur l a0 a pre L) act:=⟨h.actOk.1,h.actOk.2,h.rep⟩
 have hF':=(hF.mono hle).put (item i).dst (fun d hd=>hdn d (by rw [<-hod];exact hd)) hu
 refine ⟨h.bnd,h.down,fun j hj hjE=>getD_set_true (h.effL j hj hjE),fun j hj=>?_,h.closed.set hr,by simp [h.size],hs,h.le.trans hle,⟨hF'.size,hF'.defers⟩,fun t ht=>?_,fun j hj hjL=>?_,h.old⟩
 ·have hji:i≠j:=by
   rintro rfl
   exact hj hip
  rw [getD_set_ne false hji]
  exact h.postL j hj
 ·rw [cur_put_pending hP hI h.size hi hv]
  exact hF'.rep t ht
 ·have hji:i≠j:=by
   rintro rfl
   rw [set_same (by rw [h.size];exact hi)] at hjL
   cases hjL
  rw [getD_set_ne false hji] at hjL
  exact h.pend j hj hjL
theorem Inv.acted (hP:RegOk l eff looks bit) (hI:ItemsOk P n l eff looks al item) {e:Nat} (h:Inv P n D l eff bit item a0 σ0 w0 L act w pre a σ) (hr:e∈Region.ready .any l.toArray L) (hepre:e ∉ pre)
  {v:AV} {σ':ASt} {u:Value} {w':World} (hle:Le σ w σ' w') (hs:Sim σ' w') (hu:Rep σ' w' v u)
  (hkeep:∀ k∈pre,L.getD k false=false->∀ q,(item k).op = .q q->(∀ t want,(item k).guard=some (t,want)->mix l bit a0 a k t = .bool want)->∀ r,q.ev (mix l bit a0 a k) σ=some r->(∀ d,Dst l k d->a d=r)->q.ev (mix l bit a0 a k) σ'=some r) :
  Inv P n D l eff bit item a0 σ0 w0 (L.setIfInBounds e true) (act.put (item e).dst u) w' (pre ++ [e]) (a.put (item e).dst v) σ':=by
 obtain ⟨hi,hun⟩:=ready_un h.size hr
 obtain ⟨o,ho,hod,hcomp⟩:=item_dst hI hi
 have hdn:=(compI_spec hcomp).2.2.2.2.1
 have hbit:∀ k∈pre,bit k e=false:=fun k hk=>by
  cases hb:bit k e with
  | false=>rfl
  | true=>exact absurd (h.down k hk e hb) hepre
 have hF:FRel n D σ w (cur l a0 a pre L) act:=⟨h.actOk.1,h.actOk.2,h.rep⟩
 have hF':=(hF.mono hle).put (item e).dst (fun d hd=>hdn d (by rw [<-hod];exact hd)) hu
 have hcur:cur l a0 (a.put (item e).dst v) (pre ++ [e]) (L.setIfInBounds e true)=(cur l a0 a pre L).put (item e).dst v:=by
  funext t
  by_cases hD:Dst l e t
  ·rw [(item_Dst hI hi).1 hD,put_eq]
   unfold cur
   rw [if_neg,put_eq]
   rintro ⟨k,hk,hkL,hkD⟩
   have:k=e:=hkD.uniq hP hD
   subst this
   rw [set_same (by rw [h.size];exact hi)] at hkL
   cases hkL
  ·have hne:∀ d,(item e).dst=some d->t≠d:=fun d hd htd=>hD (by subst htd;exact (item_Dst hI hi).2 hd)
   rw [put_ne hne]
   unfold cur
   rw [put_ne hne]
   congr 1
   apply propext
   constructor
   ·rintro ⟨k,hk,hkL,hkD⟩
    have hke:e≠k:=fun h'=>hD (h'▸hkD)
    rw [getD_set_ne false hke] at hkL
    rcases List.mem_append.1 hk with hk|hk
    ·exact ⟨k,hk,hkL,hkD⟩
    ·simp at hk;exact absurd hk.symm hke
   ·rintro ⟨k,hk,hkL,hkD⟩
    have hke:e≠k:=fun h'=>hD (h'▸hkD)
    exact ⟨k,by simp [hk],by rw [getD_set_ne false hke];exact hkL,hkD⟩
 refine ⟨fun j hj=>?_,fun j hj k hk=>?_,fun j hj hjE=>?_,fun j hj=>?_,h.closed.set hr,by simp [h.size],hs,h.le.trans hle,⟨hF'.size,hF'.defers⟩,fun t ht=>?_,fun k hk hkL=>?_,fun t ht=>?_⟩
 ·rcases List.mem_append.1 hj with hj|hj
  ·exact h.bnd j hj
  ·simp at hj;subst hj;exact hi
 ·rcases List.mem_append.1 hj with hj|hj
  ·exact List.mem_append_left _ (h.down j hj k hk)
  ·simp at hj;subst hj
   refine List.mem_append_left _ (Classical.byContradiction fun hn=>?_)
   have h1:=ready_bits hP h.closed hr hk
   rw [h.postL k hn] at h1;cases h1
 ·rcases List.mem_append.1 hj with hj|hj
  ·exact getD_set_true (h.effL j hj hjE)
  ·simp at hj;subst hj;exact set_same (by rw [h.size];exact hi)
 ·have hje:e≠j:=by
   rintro rfl
   exact hj (by simp)
  rw [getD_set_ne false hje]
  exact h.postL j fun hm=>hj (by simp [hm])
 ·rw [hcur];exact hF'.rep t ht
 ·have hke:e≠k:=by
   rintro rfl
   rw [set_same (by rw [h.size];exact hi)] at hkL
   cases hkL
  rw [getD_set_ne false hke] at hkL
  have hkp:k∈pre:=by
   rcases List.mem_append.1 hk with hk|hk
   ·exact hk
   ·simp at hk;exact absurd hk.symm hke
  have hmix:mix l bit a0 (a.put (item e).dst v) k=mix l bit a0 a k:=by
   funext t
   unfold mix
   split
   ·rename_i hex
    obtain ⟨j,hj,hjD⟩:=hex
    refine put_ne fun d hd htd=>?_
    subst htd
    have:j=e:=hjD.uniq hP ((item_Dst hI hi).2 hd)
    subst this
    rw [hbit k hkp] at hj;cases hj
   ·rfl
  have hkd:∀ d,Dst l k d->a.put (item e).dst v d=a d:=fun d hd=>put_ne fun d' hd' hdd=>hke (by
   subst hdd;exact (hd.uniq hP ((item_Dst hI hi).2 hd')).symm)
  obtain ⟨q,hq,hp⟩:=h.pend k hkp hkL
  refine ⟨q,hq,?_⟩
  rw [hmix]
  have hk':=hkeep k hkp hkL q hq
  split
  ·rename_i hg
   rw [hg] at hp
   obtain ⟨r,hr',hd⟩:=hp
   exact ⟨r,hk' (fun t want h'=>by rw [hg] at h';cases h') r hr' hd,fun d hd'=>(hkd d hd').trans (hd d hd')⟩
  ·rename_i t want hg
   rw [hg] at hp
   obtain ⟨b,hb,h2,h3⟩:=hp
   refine ⟨b,hb,fun e'=>?_,fun e' d hd'=>(hkd d hd').trans (h3 e' d hd')⟩
   obtain ⟨r,hr',hd⟩:=h2 e'
   refine ⟨r,hk' (fun t' want' h'=>?_) r hr' hd,fun d hd'=>(hkd d hd').trans (hd d hd')⟩
   rw [hg] at h'
   simp only [Option.some.injEq,Prod.mk.injEq] at h'
   obtain ⟨rfl,rfl⟩:=h'
   exact word_bool (hb.trans (congrArg some e'))
 ·have h1:a.put (item e).dst v t=a t:=put_ne fun d hd htd=>ht e (by simp) (by subst htd;exact (item_Dst hI hi).2 hd)
  rw [h1]
  exact h.old t fun j hj=>ht j (by simp [hj])
end
end Go.A
namespace Go.A
open Classical
section
variable {P:Program} {n:Nat} {D:List Deferred} {l:List Oper} {eff:Nat->Bool} {looks:Nat->List Nat} {bit:Nat->Nat->Bool} {al:Nat->Bool} {item:Nat->AItem}
variable {K:AFr->ASt->Prop} {a0:AFr} {σ0:ASt} {w0:World} {R:List Nat->AFr->ASt->Prop}
def Runs (P:Program) (l:List Oper) (eff:Nat->Bool) (looks:Nat->List Nat) (bit:Nat->Nat->Bool) (al:Nat->Bool) (item:Nat->AItem) (K:AFr->ASt->Prop) (R:List Nat->AFr->ASt->Prop):Prop:=
 ∀ pre a σ,(∀ i∈pre,i<l.length)->(∀ j∈pre,∀ i,bit j i=true->i∈pre)->R pre a σ->((∀ i,i<l.length->i∈pre)/\K a σ) ∨
  (∃ i,i<l.length/\i ∉ pre/\eff i=false/\(∀ j,bit i j=true->j∈pre)/\stepI P (item i) (R (pre ++ [i])) a σ) ∨
  ((∃ i,i<l.length/\i ∉ pre)/\∀ i,i<l.length->i ∉ pre->(∀ j,bit i j=true->j∈pre)->eff i=true/\∃ ws,stepI P { item i with watch:=ws } (R (pre ++ [i])) a σ/\((al i=true/\ws = [])\/Watched l looks bit item pre i ws))
def unl (L:Array Bool) (xs:List Nat):Nat:=xs.countP fun i => !L.getD i false
theorem unl_set {L:Array Bool} {i:Nat} (hi:i<L.size) (hun:L.getD i false=false):∀ {xs:List Nat},xs.Nodup->(i∈xs->unl (L.setIfInBounds i true) xs+1=unl L xs)/\(i ∉ xs->unl (L.setIfInBounds i true) xs=unl L xs)
 | [],_=>⟨fun h=>(by cases h),fun _=>rfl⟩
 | x::xs,hnd=>by
   obtain ⟨h1,h2⟩:=List.nodup_cons.1 hnd
   obtain ⟨ih1,ih2⟩:=unl_set hi hun (xs:=xs) h2
   unfold unl at ih1 ih2 ⊢
   simp only [List.countP_cons]
   by_cases hx:i=x
   ·subst hx
    refine ⟨fun _=>?_,fun h=>absurd (by simp) h⟩
    rw [ih2 h1,set_same hi,hun]
    simp
   ·rw [getD_set_ne false hx]
    refine ⟨fun h=>?_,fun h=>?_⟩
    ·have hm:i∈xs:=by simpa [hx] using h
     have:=ih1 hm
     omega
    ·rw [ih2 (fun hm=>h (by simp [hm]))]
def undone (pre:List Nat) (xs:List Nat):Nat:=xs.countP fun i=>decide (i ∉ pre)
theorem undone_le (pre:List Nat) (i:Nat):∀ xs:List Nat,undone (pre ++ [i]) xs<=undone pre xs
 | []=>Nat.le_refl _
 | x::xs=>by
   have h0:=undone_le pre i xs
   unfold undone at h0 ⊢
   simp only [List.countP_cons]
   by_cases hx:x∈pre
   ·rw [if_neg (by simp [hx]),if_neg (by simp [hx])];exact h0
   ·rw [if_pos (c:=decide (x ∉ pre)=true) (by simp [hx])]
    split<;>omega
theorem undone_lt {pre:List Nat} {i:Nat} (hi:i ∉ pre):∀ {xs:List Nat},i∈xs->undone (pre ++ [i]) xs<undone pre xs
 | [],h=>by cases h
 | x::xs,h=>by
   have h0:=undone_le pre i xs
   by_cases hx:i=x
   ·subst hx
    unfold undone at h0 ⊢
    simp only [List.countP_cons]
    rw [if_neg (by simp),if_pos (by simpa using hi)]
    omega
   ·have hm:i∈xs:=by simpa [hx] using h
    have:=undone_lt hi hm
    unfold undone at this ⊢
    simp only [List.countP_cons]
    have e:decide (x ∉ pre ++ [i])=decide (x ∉ pre):=by
     apply decide_eq_decide.2
     simp [Ne.symm hx]
    rw [e]
    omega
theorem Inv.settle (hP:RegOk l eff looks bit) (hI:ItemsOk P n l eff looks al item) (hR:Runs P l eff looks bit al item K R) {L:Array Bool} {act:Act} {w:World}:∀ (m:Nat) {pre:List Nat} {a:AFr} {σ:ASt},undone pre (List.range l.length)<=m →
  Inv P n D l eff bit item a0 σ0 w0 L act w pre a σ->R pre a σ->∃ pre' a',Inv P n D l eff bit item a0 σ0 w0 L act w pre' a' σ/\R pre' a' σ/\(((∀ i,i<l.length->i∈pre')/\K a' σ) ∨
  ((∃ i,i<l.length/\i ∉ pre')/\∀ i,i<l.length->i ∉ pre'->(∀ j,bit i j=true->j∈pre')->eff i=true/\∃ ws,stepI P { item i with watch:=ws } (R (pre' ++ [i])) a' σ/\((al i=true/\ws = [])\/Watched l looks bit item pre' i ws)))
 | m,pre,a,σ,hm,h,hr=>by
   rcases hR pre a σ h.bnd h.down hr with h1|⟨i,hil,hip,he,hbs,hst⟩|h1
   ·exact ⟨pre,a,h,hr,.inl h1⟩
   ·obtain ⟨a',h',hr'⟩:=h.advance1 hP hI hil hip he hbs hst
    have hlt:=undone_lt hip (List.mem_range.2 hil)
    match m,hm with
    | 0,hm=>omega
    | m+1,hm=>exact Inv.settle hP hI hR m (by omega) h' hr'
   ·exact ⟨pre,a,h,hr,.inr h1⟩
theorem wpAny_of_inv (hP:RegOk l eff looks bit) (hI:ItemsOk P n l eff looks al item) (hR:Runs P l eff looks bit al item K R) {Q:Exit->Act->World->Prop} (hQ:∀ a σ act w,K a σ->Le σ0 w0 σ w->Sim σ w->FRel n D σ w a act->Q .normal act w) :
  ∀ (fuel:Nat) (L:Array Bool) (act:Act) (w:World) (pre:List Nat) (a:AFr) (σ:ASt),Inv P n D l eff bit item a0 σ0 w0 L act w pre a σ->R pre a σ->unl L (List.range l.length)<=fuel →
   wpAny P .any l.toArray Q fuel L act w:=by
 have fin:∀ (L:Array Bool) (act:Act) (w:World) (pre:List Nat) (a:AFr) (σ:ASt),Inv P n D l eff bit item a0 σ0 w0 L act w pre a σ->R pre a σ->(∀ i,i<l.length->L.getD i false=true)->Q .normal act w:=by
  intro L act w pre a σ h hr hall
  obtain ⟨pre,a,h,_,⟨_,hrun⟩|⟨⟨i,hi,hip⟩,_⟩⟩:=h.settle hP hI hR _ (Nat.le_refl _) hr
  ·refine hQ a σ act w hrun h.le h.sim ⟨h.actOk.1,h.actOk.2,fun t ht=>?_⟩
   have:=h.rep t ht
   unfold cur at this
   rw [if_neg] at this
   ·exact this
   ·rintro ⟨i,hi,hL,hD⟩
    rw [hall i hD.lt] at hL;cases hL
  ·have:=h.postL i hip
   rw [hall i hi] at this;cases this
 have some_ready:∀ (L:Array Bool),L.size=l.length->Region.ready .any l.toArray L = []->∀ i,i<l.length->L.getD i false=true:=by
  intro L hsz hr i
  induction i using Nat.strongRecOn with
  | _ i ih=>
    intro hi
    cases hL:L.getD i false with
    | true=>rfl
    | false=>
      exfalso
      obtain ⟨o,ho⟩:∃ o,l[i]? = some o:=⟨l[i],by simp [hi]⟩
      have:i∈Region.ready .any l.toArray L:=mem_ready.2 ⟨by
       have:i<L.size:=by omega
       simp only [Array.getD,this,dif_pos] at hL ⊢
       exact hL,o,by simpa using ho,fun e he hb=>by
       have hlt:=hP.down i o ho e he hb
       exact ih e.on hlt (by omega)⟩
      rw [hr] at this;cases this
 intro fuel
 induction fuel with
 | zero=>
   intro L act w pre a σ h hr hu
   have hall:∀ i,i<l.length->L.getD i false=true:=by
    intro i hi
    have h0:unl L (List.range l.length)=0:=by omega
    unfold unl at h0
    rw [List.countP_eq_zero] at h0
    have:=h0 i (List.mem_range.2 hi)
    simpa using this
   refine ⟨?_,fin L act w pre a σ h hr hall⟩
   cases hr:Region.ready .any l.toArray L with
   | nil=>rfl
   | cons i r=>
     exfalso
     obtain ⟨hi,hun⟩:=ready_un h.size (i:=i) (by rw [hr];simp)
     rw [hall i hi] at hun;cases hun
 | succ fuel ih=>
   intro L act w pre a σ h hrr hu
   refine ⟨fun hr=>fin L act w pre a σ h hrr (some_ready L h.size hr),fun i hr=>?_⟩
   obtain ⟨pre,a,h,hrr,hpost⟩:=h.settle hP hI hR _ (Nat.le_refl _) hrr
   obtain ⟨hi,hun⟩:=ready_un h.size hr
   obtain ⟨o,ho,hod,hcomp⟩:=item_dst hI hi
   obtain ⟨_,hg,hop,_,hdn,hln,hgn⟩:=compI_spec hcomp
   simp only at hg hop hgn
   have hlo:l.toArray[i]? = some o:=by simpa using ho
   have hcnt:unl (L.setIfInBounds i true) (List.range l.length)<=fuel:=by
    have:=(unl_set (by rw [h.size];exact hi) hun (List.nodup_range (n:=l.length))).1 (List.mem_range.2 hi)
    omega
   unfold wpOp
   simp only [hlo]
   by_cases hip:i∈pre
   ·-- it was walked ahead
    obtain ⟨q,hq,hp⟩:=h.pend i hip hun
    have hreps:∀ t,Operand.tmp t∈o.op.operands.toList->Rep σ w (mix l bit a0 a i t) (act.tmps.getD t undef):=fun t ht=>h.look hP hr (hI.looksO i o t ho ht) (hln t ht)
    have go:∀ v,q.ev (mix l bit a0 a i) σ=some v->(∀ d,Dst l i d->a d=v)->o.wp P act w (wpAny P .any l.toArray Q fuel (L.setIfInBounds i true)) Q:=by
     intro v hv hd
     rw [hq] at hop
     refine compO_wp (n:=n) (K:=fun v' σ'=>v'=v/\σ'=σ) hop h.sim hreps ?_ ?_
     ·simp only [AOp.step,hv,and_self]
     ·rintro v' σ' u w' ⟨rfl,rfl⟩ hle hs hrep
      have h':=h.pending hP hI hr hip hd hle hs hrep
      rw [hod] at h'
      exact ih _ _ _ _ _ _ h' hrr hcnt
    split at hp
    ·rename_i hgd
     obtain ⟨v,hv,hd⟩:=hp
     rw [hgd] at hg
     rw [if_pos (guard_none hg _)]
     exact .inl (go v hv hd)
    ·rename_i t want hgd
     obtain ⟨b,hb,h2,h3⟩:=hp
     rw [hgd] at hg
     have htn:=hgn t want hgd
     have hrg:=word_rep hb (h.look hP hr (hI.looksG i t want hi hgd) htn)
     have hat:act.tmps[t]? = some (act.tmps.getD t undef):=getD_of_lt undef (by rw [h.actOk.1];exact htn)
     rw [guard_some hg hat hrg]
     by_cases hbw:b=some want
     ·rw [if_pos (by simp [hbw])]
      obtain ⟨v,hv,hd⟩:=h2 hbw
      exact .inl (go v hv hd)
     ·rw [if_neg (by simp [hbw])]
      have h':=h.pending hP hI hr hip (h3 hbw) (Le.refl _ _) h.sim (u:=undef) (.tuple .nil)
      rw [hod] at h'
      exact ih _ _ _ _ _ _ h' hrr hcnt
   ·-- it acts,and it is its turn
    have hbits:∀ j,bit i j=true->j∈pre:=fun j hb=>Classical.byContradiction fun hn=>by
     have h1:=ready_bits hP h.closed hr hb
     rw [h.postL j hn] at h1;cases h1
    obtain ⟨he,ws,hrun,hws⟩:eff i=true/\∃ ws,stepI P { item i with watch:=ws } (R (pre ++ [i])) a σ/\((al i=true/\ws = [])\/Watched l looks bit item pre i ws):=by
     rcases hpost with ⟨hall,_⟩|⟨_,hpost⟩
     ·exact absurd (hall i hi) hip
     ·exact hpost i hi hip hbits
    have hlooks:∀ t,t∈looks i->t<n->Rep σ w (a t) (act.tmps.getD t undef):=by
     intro t ht htn
     have h1:=h.rep t htn
     unfold cur at h1
     rw [if_neg] at h1
     ·exact h1
     ·rintro ⟨k,hk,hkL,hkD⟩
      obtain ⟨ok,hk1,hk2⟩:=hkD
      rcases (hP.temps i k t ok hi ht hk1 hk2).2 with hb|hb
      ·rw [ready_bits hP h.closed hr hb] at hkL;cases hkL
      ·exact hip (h.down k hk i hb)
    have go:AItem.step P { item i with watch:=ws } (R (pre ++ [i])) a σ->o.wp P act w (wpAny P .any l.toArray Q fuel (L.setIfInBounds i true)) Q:=by
     intro hst
     have hst':(item i).op.step P a σ fun v σ'=>((al i=true/\ws = [])->∃ b x,σ b=none/\σ'=σ.set b x)/\watchOk (a.put (item i).dst v) σ' ws/\R (pre ++ [i]) (a.put (item i).dst v) σ':=by
      by_cases hal:al i=true/\ws = []
      ·obtain ⟨d,z,hit⟩:=hI.alI i hi hal.1
       have hst1:(item i).op.step P a σ fun v σ'=>watchOk (a.put (item i).dst v) σ' ws/\R (pre ++ [i]) (a.put (item i).dst v) σ':=hst
       rw [hit] at hst1 ⊢
       exact fun b hb=>⟨fun _=>⟨b,_,hb,rfl⟩,hst1 b hb⟩
      ·exact AOp.step_mono hst fun v σ' hv=>⟨fun h=>absurd h hal,hv⟩
     refine compO_wp (n:=n) (K:=fun v σ'=>((al i=true/\ws = [])->∃ b x,σ b=none/\σ'=σ.set b x)/\watchOk (a.put (item i).dst v) σ' ws/\R (pre ++ [i]) (a.put (item i).dst v) σ') hop h.sim (fun t ht=>hlooks t (hI.looksO i o t ho ht) (hln t ht)) hst' ?_
     rintro v σ' u w' ⟨hfr,hwt,hrest⟩ hle hs hrep
     have h':=h.acted hP hI hr hip hle hs hrep (fun k hk hkL q hq hgw rr hev hd=>?_)
     ·rw [hod] at h'
      exact ih _ _ _ _ _ _ h' (by rw [hod] at hrest;exact hrest) hcnt
     ·rcases hws with hal|hwd
      ·obtain ⟨b,x,hb,rfl⟩:=hfr hal
       exact QOp.ev_fresh hb hev
      ·cases hrd:q.reads with
       | false=>rw [<-hev];exact QOp.ev_still hrd _ _ _
       | true=>
         have hkb:bit i k=false:=by
          cases hb:bit i k with
          | false=>rfl
          | true=>rw [ready_bits hP h.closed hr hb] at hkL;cases hkL
         obtain ⟨⟨d,hdD,hmem⟩,hwrites⟩:=hwd k hk q hq hrd hkb
         have hki:k≠i:=fun e=>hip (e▸hk)
         have hkl:k<l.length:=h.bnd k hk
         have hbk:bit k i=false:=by
          cases hb:bit k i with
          | false=>rfl
          | true=>exact absurd (h.down k hk i hb) hip
         have same:∀ t∈looks k,mix l bit a0 a k t=a.put (item i).dst v t:=by
          intro t ht
          have hne:∀ d,(item i).dst=some d->t≠d:=fun d hd htd=>by
           subst htd
           have:=hwrites t ht i ((item_Dst hI hi).2 hd)
           rw [hbk] at this;cases this
          rw [put_ne hne]
          unfold mix
          split
          ·rfl
          ·rename_i hno
           exact (h.old t fun j _ hjD=>hno ⟨j,hwrites t ht j hjD,hjD⟩).symm
         have hcg:q.ev (mix l bit a0 a k) σ'=q.ev (a.put (item i).dst v) σ':=QOp.ev_congr fun t ht=>same t (hI.looksQ k q hkl hq t ht)
         have hdv:a.put (item i).dst v d=rr:=by
          rw [put_ne fun d' hd' hdd=>hki (by subst hdd;exact hdD.uniq hP ((item_Dst hI hi).2 hd')),hd d hdD]
         have hw:=watchOk_mem hwt _ hmem
         simp only at hw
         rw [hcg]
         split at hw
         ·rw [hw,hdv]
         ·rename_i t want hgd
          have hx:a.put (item i).dst v t = .bool want:=by rw [<-same t (hI.looksG k t want hkl hgd)];exact hgw t want hgd
          rw [hw hx,hdv]
    unfold stepI at hrun
    split at hrun
    ·rename_i hgd
     have hgd:(item i).guard=none:=hgd
     rw [hgd] at hg
     rw [if_pos (guard_none hg _)]
     exact .inl (go hrun)
    ·rename_i t want hgd
     have hgd:(item i).guard=some (t,want):=hgd
     rw [hgd] at hg
     split at hrun
     ·rename_i b hb
      have htn:=hgn t want hgd
      have hrg:=word_rep hb (hlooks t (hI.looksG i t want hi hgd) htn)
      have hat:act.tmps[t]? = some (act.tmps.getD t undef):=getD_of_lt undef (by rw [h.actOk.1];exact htn)
      rw [guard_some hg hat hrg]
      split at hrun
      ·rename_i hbw
       rw [if_pos (by simp [hbw])]
       exact .inl (go hrun)
      ·rename_i hbw
       rw [if_neg (by simp [hbw])]
       have h':=h.acted hP hI hr hip (v := .tuple []) (σ':=σ) (u:=undef) (w':=w) (Le.refl _ _) h.sim (.tuple .nil) (fun k hk hkL q hq hgw rr hev hd=>hev)
       rw [hod] at h'
       have hrun:R (pre ++ [i]) (a.put (item i).dst (.tuple [])) σ:=hrun
       exact ih _ _ _ _ _ _ h' (by rw [hod] at hrun;exact hrun) hcnt
     ·exact hrun.elim
theorem run_drawn (hm:P.follows .mixedOrders=true) (hP:RegOk l eff looks bit) (hI:ItemsOk P n l eff looks al item) (hR:Runs P l eff looks bit al item K R) {Q:Exit->Act->World->Prop} {w:World} {act:Act} {id:Nat} {σ:ASt}
  (hQ:∀ a σ act w,K a σ->Le σ0 w0 σ w->Sim σ w->FRel n D σ w a act->Q .normal act w) (h:R [] a0 σ) (hle:Le σ0 w0 σ w) (hs:Sim σ w) (hf:FRel n D σ w a0 act) :
  (Code.region id l.toArray true).wp P Q act w:=by
 refine wp_region_any hm ?_
 have hd:Le σ w σ { w with drawn:=w.drawn+1 }:=⟨rfl,rfl,rfl,Nat.le_refl _,fun b _ h=>⟨h,rfl⟩,fun b cs _ h=>⟨.inr h,rfl⟩,fun b f _ h=>⟨.inr ⟨f,Nat.le_refl _,h⟩,rfl,fun _ _=>rfl⟩⟩
 have hs':Sim σ { w with drawn:=w.drawn+1 }:=fun b r hb=>(hs b r hb).keep hd rfl
 have hf':=hf.mono hd
 refine wpAny_of_inv (K:=K) (R:=R) (a0:=a0) (σ0:=σ0) (w0:=w0) hP hI hR hQ _ _ _ _ [] a0 σ ?_ h ?_
 ·refine ⟨fun i hi=>(by cases hi),fun i hi=>(by cases hi),fun i hi=>(by cases hi),fun i hi=>?_,?_,by simp,hs',hle.trans hd,⟨hf.size,hf.defers⟩,fun t ht=>?_,fun i hi=>(by cases hi),fun t _=>rfl⟩
  ·rcases Nat.lt_or_ge i l.length with h'|h'
   ·simp [h']
   ·simp [Array.getElem?_eq_none (xs:=Array.replicate l.length false) (by simpa using h')]
  ·intro k o ho hk
   exfalso
   rcases Nat.lt_or_ge k l.length with h'|h'
   ·simp [h'] at hk
   ·simp [Array.getElem?_eq_none (xs:=Array.replicate l.length false) (by simpa using h')] at hk
  ·have:cur l a0 a0 [] (Array.replicate l.toArray.size false) t=a0 t:=by unfold cur;rw [if_neg];rintro ⟨i,hi,_⟩;cases hi
   rw [this]
   exact hf'.rep t ht
 ·unfold unl
  refine Nat.le_trans List.countP_le_length ?_
  simp
structure PlanOk (l:List Oper) (π:List Nat) (eff:Nat->Bool) (bit:Nat->Nat->Bool) (al:Nat->Bool) (looks:Nat->List Nat) (item:Nat->AItem):Prop where
 mem:∀ i,i∈π↔i<l.length
 nodup:π.Nodup
 before:∀ pre i post,π=pre++i::post->∀ j,bit i j=true->j∈pre
 effs:∀ pre i post,π=pre++i::post->∀ e∈pre,eff e=true->bit i e=true\/(al e=true/\al i=true)
 alB:∀ i,al i=true->∀ j,bit i j=false
 cont:∃ U V W,π=U++(V++W)/\(∀ v∈V,al v=true)/\(∀ u∈U,al u=false)/\∀ u∈W,al u=false
 watch:∀ pre e post,π=pre++e::post->eff e=true->al e=false->Watched l looks bit item pre e (item e).watch
theorem split_swap {A B P S:List Nat} {x y z:Nat} (h:A++y::x::B=P++z::S) :
  (∃ A2,A=P++z::A2/\S=A2++y::x::B)\/(P=A/\z=y/\S=x::B)\/(P=A ++ [y]/\z=x/\S=B)\/(∃ B1,P=A++y::x::B1/\B=B1++z::S):=by
 rcases List.append_eq_append_iff.1 h with ⟨as,h1,h2⟩|⟨as,h1,h2⟩
 ·-- P=A++as,y::x::B=as++z::S
  cases as with
  | nil=>
    simp only [List.nil_append,List.cons.injEq] at h2
    exact .inr (.inl ⟨by simpa using h1,h2.1.symm,h2.2.symm⟩)
  | cons u as=>
    simp only [List.cons_append,List.cons.injEq] at h2
    obtain ⟨rfl,h2⟩:=h2
    cases as with
    | nil=>
      simp only [List.nil_append,List.cons.injEq] at h2
      exact .inr (.inr (.inl ⟨h1,h2.1.symm,h2.2.symm⟩))
    | cons v as=>
      simp only [List.cons_append,List.cons.injEq] at h2
      obtain ⟨rfl,h2⟩:=h2
      exact .inr (.inr (.inr ⟨as,h1,h2⟩))
 ·-- A=P++as,z::S=as++y::x::B
  cases as with
  | nil=>
    simp only [List.nil_append,List.cons.injEq] at h2
    exact .inr (.inl ⟨by simpa using h1.symm,h2.1,h2.2⟩)
  | cons u as=>
    simp only [List.cons_append,List.cons.injEq] at h2
    obtain ⟨rfl,h2⟩:=h2
    exact .inl ⟨as,h1,h2⟩
theorem cont_loc {U V W pre p1 p2:List Nat} {e i:Nat} (h:pre++e::(p1++i::p2)=U++(V++W)) (hU:∀ u∈U,al u=false) (hW:∀ u∈W,al u=false) (he:al e=true) (hi:al i=true) :
  ∃ as V2,pre=U++as/\V=as++e::(p1++i::V2)/\p2=V2++W:=by
 rcases List.append_eq_append_iff.1 h with ⟨as,h1,h2⟩|⟨as,h1,h2⟩
 ·-- U=pre++as
  cases as with
  | nil=>
    simp only [List.nil_append] at h2
    have h3:V++W=(e::p1)++i::p2:=by rw [<-h2];rfl
    rcases List.append_eq_append_iff.1 h3 with ⟨bs,h4,h5⟩|⟨bs,h4,h5⟩
    ·exfalso
     have:i∈W:=by
      rw [h5]
      simp
     rw [hW i this] at hi;cases hi
    ·cases bs with
     | nil=>
       exfalso
       simp only [List.nil_append] at h5
       have:i∈W:=by rw [<-h5];simp
       rw [hW i this] at hi;cases hi
     | cons u bs=>
       simp only [List.cons_append,List.cons.injEq] at h5
       obtain ⟨rfl,h5⟩:=h5
       exact ⟨[],bs,by simpa using h1.symm,by rw [h4];simp,h5⟩
  | cons u as=>
    exfalso
    simp only [List.cons_append,List.cons.injEq] at h2
    obtain ⟨rfl,_⟩:=h2
    rw [hU e (by rw [h1];simp)] at he;cases he
 ·-- pre=U++as
  have h3:V++W=(as++e::p1)++i::p2:=by rw [h2];simp
  rcases List.append_eq_append_iff.1 h3 with ⟨bs,h4,h5⟩|⟨bs,h4,h5⟩
  ·exfalso
   have:i∈W:=by
    rw [h5]
    simp
   rw [hW i this] at hi;cases hi
  ·cases bs with
   | nil=>
     exfalso
     simp only [List.nil_append] at h5
     have:i∈W:=by rw [<-h5];simp
     rw [hW i this] at hi;cases hi
   | cons u bs=>
     simp only [List.cons_append,List.cons.injEq] at h5
     obtain ⟨rfl,h5⟩:=h5
     exact ⟨as,bs,h1,by rw [h4];simp,h5⟩
theorem PlanOk.swap {A B:List Nat} {x y:Nat} (hP:PlanOk l (A++x::y::B) eff bit al looks item) (hx:al x=true) (hy:al y=true) (hyq:∀ q,(item y).op ≠ .q q):PlanOk l (A++y::x::B) eff bit al looks item where
 mem i:=by rw [<-hP.mem i];simp only [List.mem_append,List.mem_cons];constructor<;>(rintro (h|h|h|h)<;>simp [h])
 nodup:=((List.Perm.swap y x B).append_left A).nodup_iff.1 hP.nodup
 before P z S h j hj:=by
  rcases split_swap h with ⟨A2,h1,h2⟩|⟨h1,rfl,h2⟩|⟨h1,rfl,h2⟩|⟨B1,h1,h2⟩
  ·exact hP.before P z (A2++x::y::B) (by rw [h1];simp) j hj
  ·rw [hP.alB _ hy] at hj;cases hj
  ·rw [hP.alB _ hx] at hj;cases hj
  ·have:=hP.before (A++x::y::B1) z S (by rw [h2];simp) j hj
   rw [h1]
   simp only [List.mem_append,List.mem_cons] at this ⊢
   rcases this with h|h|h|h<;>simp [h]
 effs P z S h e he hE:=by
  rcases split_swap h with ⟨A2,h1,h2⟩|⟨h1,rfl,h2⟩|⟨h1,rfl,h2⟩|⟨B1,h1,h2⟩
  ·exact hP.effs P z (A2++x::y::B) (by rw [h1];simp) e he hE
  ·exact hP.effs (A ++ [x]) z B (by simp) e (by rw [h1] at he;simp [he]) hE
  ·rw [h1] at he
   rcases List.mem_append.1 he with he|he
   ·exact hP.effs A z (y::B) rfl e he hE
   ·simp at he;subst he;exact .inr ⟨hy,hx⟩
  ·refine hP.effs (A++x::y::B1) z S (by rw [h2];simp) e ?_ hE
   rw [h1] at he
   simp only [List.mem_append,List.mem_cons] at he ⊢
   rcases he with h|h|h|h<;>simp [h]
 alB:=hP.alB
 cont:=by
  obtain ⟨U,V,W,h,hV,hU,hW⟩:=hP.cont
  obtain ⟨as,V2,h1,h2,h3⟩:=cont_loc (p1 := []) (by simpa using h) hU hW hx hy
  refine ⟨U,as++y::x::V2,W,by rw [h1,h3];simp,fun v hv=>hV v ?_,hU,hW⟩
  rw [h2]
  simp only [List.mem_append,List.mem_cons,List.nil_append] at hv ⊢
  rcases hv with h|h|h|h<;>simp [h]
 watch P z S h hE hal i hi q hq hr hb:=by
  rcases split_swap h with ⟨A2,h1,h2⟩|⟨h1,rfl,h2⟩|⟨h1,rfl,h2⟩|⟨B1,h1,h2⟩
  ·exact hP.watch P z (A2++x::y::B) (by rw [h1];simp) hE hal i hi q hq hr hb
  ·rw [hy] at hal;cases hal
  ·rw [hx] at hal;cases hal
  ·refine hP.watch (A++x::y::B1) z S (by rw [h2];simp) hE hal i ?_ q hq hr hb
   rw [h1] at hi
   simp only [List.mem_append,List.mem_cons] at hi ⊢
   rcases hi with h|h|h|h<;>simp [h]
theorem bring (hI:ItemsOk P n l eff looks al item) (hu:∀ (i j t:Nat) (oi oj:Oper),l[i]? = some oi->l[j]? = some oj->oi.dst=some t->oj.dst=some t->i=j) {pre:List Nat} {i:Nat} (hi:al i=true) {a:AFr} {σ:ASt}:∀ (m:Nat) (p1 p2:List Nat),p1.length=m->(∀ x∈p1,al x=true)->PlanOk l (pre++(p1++i::p2)) eff bit al looks item →
  runI P ((p1++i::p2).map item) K a σ->PlanOk l (pre++i::(p1++p2)) eff bit al looks item/\runI P ((i::(p1++p2)).map item) K a σ
 | 0,p1,p2,hm,hall,hP,h=>by
   have:p1 = []:=List.eq_nil_of_length_eq_zero hm
   subst this
   exact ⟨hP,h⟩
 | m+1,p1,p2,hm,hall,hP,h=>by
   obtain ⟨q,x,rfl⟩:∃ q x,p1=q ++ [x]:=⟨p1.dropLast,p1.getLast (by rintro rfl;simp at hm),(List.dropLast_concat_getLast _).symm⟩
   have hx:=hall x (by simp)
   have e1:pre++((q ++ [x])++i::p2)=(pre++q)++x::i::p2:=by simp
   rw [e1] at hP
   have hmem:∀ z,z=x\/z=i->z<l.length:=fun z hz=>(hP.mem z).1 (by rcases hz with rfl|rfl<;>simp)
   have hnd:=hP.nodup
   have hxi:x≠i:=by
    rintro rfl
    rw [List.nodup_append] at hnd
    exact (List.nodup_cons.1 hnd.2.1).1 (by simp)
   obtain ⟨d1,z1,hit1⟩:=hI.alI x (hmem x (.inl rfl)) hx
   obtain ⟨d2,z2,hit2⟩:=hI.alI i (hmem i (.inr rfl)) hi
   have hd:∀ d,d1=some d->d2≠some d:=by
    rintro d rfl hd2
    obtain ⟨ox,hox,hdx,_⟩:=item_dst hI (hmem x (.inl rfl))
    obtain ⟨oi,hoi,hdi,_⟩:=item_dst hI (hmem i (.inr rfl))
    rw [hit1] at hdx
    rw [hit2,hd2] at hdi
    exact hxi (hu x i d ox oi hox hoi hdx.symm hdi.symm)
   have hrun:runI P ((q++i::x::p2).map item) K a σ:=by
    simp only [List.map_append,List.map_cons,List.append_assoc,List.cons_append,List.nil_append,List.map_nil,runI_app] at h ⊢
    rw [hit1,hit2] at h
    rw [hit1,hit2]
    exact runI_mono _ _ _ (fun a σ hh=>runI_swap hd hh) a σ h
   have hsw:=hP.swap hx hi (fun q hq=>by rw [hit2] at hq;cases hq)
   have e2:(pre++q)++i::x::p2=pre++(q++i::(x::p2)):=by simp
   rw [e2] at hsw
   obtain ⟨g1,g2⟩:=bring hI hu hi m q (x::p2) (by simpa using hm) (fun z hz=>hall z (by simp [hz])) hsw hrun
   exact ⟨by simpa using g1,by simpa using g2⟩
def Lin (P:Program) (l:List Oper) (eff:Nat->Bool) (bit:Nat->Nat->Bool) (al:Nat->Bool) (looks:Nat->List Nat) (item:Nat->AItem) (K:AFr->ASt->Prop) (pre:List Nat) (a:AFr) (σ:ASt):Prop:=
 ∃ post,PlanOk l (pre++post) eff bit al looks item/\runI P (post.map item) K a σ
theorem lin_runs (hI:ItemsOk P n l eff looks al item) (hu:∀ (i j t:Nat) (oi oj:Oper),l[i]? = some oi->l[j]? = some oj->oi.dst=some t->oj.dst=some t->i=j):Runs P l eff looks bit al item K (Lin P l eff bit al looks item K):=by
 rintro pre a σ - - ⟨post,hP,hrun⟩
 cases post with
 | nil=>exact .inl ⟨fun i hi=>by simpa using (hP.mem i).2 hi,hrun⟩
 | cons e r=>
   have hel:e<l.length:=(hP.mem e).1 (by simp)
   have hnd:=hP.nodup
   have hep:e ∉ pre:=fun hm=>by
    rw [List.nodup_append] at hnd
    exact hnd.2.2 e hm e (by simp) rfl
   cases he:eff e with
   | false=>
     refine .inr (.inl ⟨e,hel,hep,he,hP.before pre e r rfl,?_⟩)
     refine stepI_mono (K1:=runI P (r.map item) K) (fun a σ h=>⟨r,by simpa using hP,h⟩) hrun
   | true=>
     refine .inr (.inr ⟨⟨e,hel,hep⟩,fun i hi hip hb=>?_⟩)
     have key:∀ r',PlanOk l (pre++i::r') eff bit al looks item->runI P ((i::r').map item) K a σ->eff i=true->eff i=true/\∃ ws,stepI P { item i with watch:=ws } (Lin P l eff bit al looks item K (pre ++ [i])) a σ/\((al i=true/\ws = [])\/Watched l looks bit item pre i ws):=by
      intro r' hP' hrun' hE
      refine ⟨hE,(item i).watch,stepI_mono (K1:=runI P (r'.map item) K) (fun a σ h=>⟨r',by simpa using hP',h⟩) hrun',?_⟩
      cases hal:al i with
      | true=>
        obtain ⟨d,z,hit⟩:=hI.alI i hi hal
        exact .inl ⟨rfl,by rw [hit]⟩
      | false=>exact .inr (hP'.watch pre i r' rfl hE hal)
     have him:i∈e::r:=by
      have:=(hP.mem i).2 hi
      rcases List.mem_append.1 this with h|h
      ·exact absurd h hip
      ·exact h
     rcases List.mem_cons.1 him with rfl|hir
     ·exact key r hP hrun he
     ·obtain ⟨p1,p2,hp⟩:=List.append_of_mem hir
      subst hp
      rcases hP.effs (pre++e::p1) i p2 (by simp) e (by simp) he with hbe|⟨hale,hali⟩
      ·exact absurd (hb e hbe) hep
      ·obtain ⟨U,V,W,hc,hV,hU,hW⟩:=hP.cont
       obtain ⟨as,V2,_,hV2,_⟩:=cont_loc (al:=al) (pre:=pre) (p1:=p1) (p2:=p2) hc hU hW hale hali
       obtain ⟨g1,g2⟩:=bring hI hu hali (e::p1).length (e::p1) p2 rfl (fun x hx=>hV x (by rw [hV2];simp only [List.mem_append,List.mem_cons] at hx ⊢;rcases hx with h|h<;>simp [h])) hP hrun
       have hE:eff i=true:=by
        cases hei:eff i with
        | true=>rfl
        | false=>
          obtain ⟨q,hq⟩:=(hI.effI i hi).1 hei
          obtain ⟨d,z,hit⟩:=hI.alI i hi hali
          rw [hit] at hq
          cases hq
       exact key _ g1 g2 hE
def canGo (N:Nat) (bit:Nat->Nat->Bool) (pre:List Nat) (i:Nat):Bool := !pre.contains i && (List.range N).all fun j => !bit i j || pre.contains j
def bothT:List ATree->ATree
 | [] => .done
 | [t]=>t
 | t::ts => .both t (bothT ts)
def treeOf (N:Nat) (bit:Nat->Nat->Bool) (eff:Nat->Bool) (item:Nat->AItem) (wat:List Nat->Nat->List Watch):Nat->List Nat->ATree
 | 0,_ => .done
 | f+1,pre=>
   match (List.range N).find? fun i => !eff i && canGo N bit pre i with
   | some i => .seg [item i] (treeOf N bit eff item wat f (pre ++ [i]))
   | none=>bothT (((List.range N).filter (canGo N bit pre)).map fun e => .seg [{ item e with watch:=wat pre e }] (treeOf N bit eff item wat f (pre ++ [e])))
theorem bothT_all {P:Program} {a:AFr} {σ:ASt}:∀ {ts:List ATree},runT P (bothT ts) K a σ->∀ t∈ts,runT P t K a σ
 | [],_,t,ht=>by cases ht
 | [x],h,t,ht=>by simp at ht;subst ht;exact h
 | x::y::ts,h,t,ht=>by
   rcases List.mem_cons.1 ht with rfl|ht
   ·exact h.1
   ·exact bothT_all h.2 t ht
theorem canGo_iff {N:Nat} (hN:∀ i j,i<N->bit i j=true->j<N) {pre:List Nat} {i:Nat} (hi:i<N):canGo N bit pre i=true↔i ∉ pre/\∀ j,bit i j=true->j∈pre:=by
 unfold canGo
 simp only [Bool.and_eq_true,Bool.not_eq_true',List.all_eq_true,List.mem_range,Bool.or_eq_true]
 constructor
 ·rintro ⟨h1,h2⟩
  refine ⟨fun h=>by simp [h] at h1,fun j hj=>?_⟩
  rcases h2 j (hN i j hi hj) with h|h
  ·rw [hj] at h;cases h
  ·simpa using h
 ·rintro ⟨h1,h2⟩
  refine ⟨by simpa using h1,fun j _=>?_⟩
  cases hb:bit i j with
  | false=>exact .inl rfl
  | true=>exact .inr (by simpa using h2 j hb)
def Tre (P:Program) (l:List Oper) (eff:Nat->Bool) (bit:Nat->Nat->Bool) (item:Nat->AItem) (wat:List Nat->Nat->List Watch) (K:AFr->ASt->Prop) (pre:List Nat) (a:AFr) (σ:ASt):Prop:=
 ∃ f,undone pre (List.range l.length)<=f/\runT P (treeOf l.length bit eff item wat f pre) K a σ
theorem tre_runs (hP:RegOk l eff looks bit) {wat:List Nat->Nat->List Watch} (hw:∀ pre e,(∀ i∈pre,i<l.length)->e<l.length->eff e=true->(al e=true/\wat pre e = [])\/Watched l looks bit item pre e (wat pre e)):Runs P l eff looks bit al item K (Tre P l eff bit item wat K):=by
 rintro pre a σ hbnd hdown ⟨f,hf,hrun⟩
 have hN:∀ i j,i<l.length->bit i j=true->j<l.length:=fun i j hi hb=>Nat.lt_trans (hP.lt i j hi hb) hi
 by_cases hall:∀ i,i<l.length->i∈pre
 ·refine .inl ⟨hall,?_⟩
  have hnone:∀ i,i<l.length->canGo l.length bit pre i=false:=fun i hi=>by
   cases h:canGo l.length bit pre i with
   | false=>rfl
   | true=>exact absurd (hall i hi) ((canGo_iff hN hi).1 h).1
  cases f with
  | zero=>exact hrun
  | succ f=>
    have e1:((List.range l.length).find? fun i => !eff i && canGo l.length bit pre i)=none:=by
     rw [List.find?_eq_none]
     intro i hi
     rw [hnone i (List.mem_range.1 hi)]
     simp
    have e2:(List.range l.length).filter (canGo l.length bit pre) = []:=by
     rw [List.filter_eq_nil_iff]
     intro i hi
     rw [hnone i (List.mem_range.1 hi)]
     simp
    simp only [treeOf,e1,e2,List.map_nil,bothT] at hrun
    exact hrun
 ·obtain ⟨i0,hi0⟩:=Classical.not_forall.1 hall
  obtain ⟨hi0,hip0⟩:=Classical.not_imp.1 hi0
  have hpos:0<undone pre (List.range l.length):=by
   have:=undone_lt hip0 (List.mem_range.2 hi0)
   omega
  cases f with
  | zero=>omega
  | succ f=>
    have hless:∀ i,i<l.length->i ∉ pre->undone (pre ++ [i]) (List.range l.length)<=f:=fun i hi hip=>by
     have:=undone_lt hip (List.mem_range.2 hi)
     omega
    simp only [treeOf] at hrun
    split at hrun
    ·rename_i i hfi
     have h1:=List.find?_some hfi
     have hi:=List.mem_range.1 (List.mem_of_find?_eq_some hfi)
     simp only [Bool.and_eq_true,Bool.not_eq_true'] at h1
     obtain ⟨h2,h3⟩:=(canGo_iff hN hi).1 h1.2
     exact .inr (.inl ⟨i,hi,h2,h1.1,h3,stepI_mono (fun a σ h=>⟨f,hless i hi h2,h⟩) hrun⟩)
    ·rename_i hfn
     refine .inr (.inr ⟨⟨i0,hi0,hip0⟩,fun i hi hip hb=>?_⟩)
     have hgo:=(canGo_iff hN hi).2 ⟨hip,hb⟩
     have hE:eff i=true:=by
      cases he:eff i with
      | true=>rfl
      | false=>
        have:=List.find?_eq_none.1 hfn i (List.mem_range.2 hi)
        rw [he,hgo] at this
        exact absurd rfl this
     refine ⟨hE,wat pre i,?_,hw pre i hbnd hi hE⟩
     have:=bothT_all hrun _ (List.mem_map.2 ⟨i,List.mem_filter.2 ⟨List.mem_range.2 hi,hgo⟩,rfl⟩)
     exact stepI_mono (fun a σ h=>⟨f,hless i hi hip,h⟩) this
end
end Go.A
namespace Go.A
def maskOf (m:List Nat) (o:Oper):Nat:=o.after.toList.foldr (fun e s=>(if Region.binds .any e then 2 ^ e.on ||| m.getD e.on 0 else 0) ||| s) 0
def befs (l:List Oper):List Nat:=l.foldl (fun acc o=>acc ++ [maskOf acc o]) []
def maskOk (l:List Oper) (m:List Nat):Bool:=
 m.length==l.length && (List.range l.length).all fun j=>match l[j]? with
  | some o=>m.getD j 0==maskOf m o && o.after.toList.all fun e => !Region.binds .any e || decide (e.on<j)
  | none=>true
def bitOf (m:List Nat) (i j:Nat):Bool:=(m.getD i 0).testBit j
def dstOf (l:List Oper) (i:Nat):Option Nat:=(l[i]?).bind (·.dst)
def ordOk (N:Nat) (bit:Nat->Nat->Bool) (eff al:Nat->Bool):List Nat->List Nat->Bool
 | _,[]=>true
 | pre,i::r=>(List.range N).all (fun j => !bit i j || pre.contains j) && pre.all (fun e => !eff e || bit i e || (al e && al i)) && ordOk N bit eff al (i::pre) r
def effOf (its:List AItem) (i:Nat):Bool:=
 match its[i]? with
 | some { op := .e _,.. }=>true
 | _=>false
def looksOf (l:List Oper) (its:List AItem) (i:Nat):List Nat:=
 (match l[i]? with
  | some o=>o.op.operands.toList.flatMap looksO
  | none => []) ++
 (match its[i]? with
  | some it=>(match it.guard with
    | some (t,_) => [t]
    | none => [])++(match it.op with
    | .q q=>q.looks
    | .e _ => [])
  | none => [])
def tempsOk (l:List Oper) (bit:Nat->Nat->Bool) (looks:Nat->List Nat):Bool:=
 (List.range l.length).all fun i=>(looks i).all fun t=>(List.range l.length).all fun j=>dstOf l j != some t || (j != i && (bit i j || bit j i))
def uniqOk (l:List Oper):Bool:=
 (List.range l.length).all fun i=>(List.range l.length).all fun j=>i==j || (dstOf l i).isNone || dstOf l i != dstOf l j
def readsOf (its:List AItem) (i:Nat):Option QOp:=
 match its[i]? with
 | some { op := .q q,.. }=>if q.reads then some q else none
 | _=>none
def watchOf (l:List Oper) (its:List AItem) (bit:Nat->Nat->Bool) (e:Nat):List Nat->List Watch
 | [] => []
 | i::r=>match readsOf its i,dstOf l i,its[i]? with
   | some q,some d,some it=>if bit e i then watchOf l its bit e r else { guard:=it.guard,q:=q,dst:=d }::watchOf l its bit e r
   | _,_,_=>watchOf l its bit e r
def readOk (l:List Oper) (its:List AItem) (bit:Nat->Nat->Bool) (i:Nat):Bool:=
 (readsOf its i).isNone || ((dstOf l i).isSome && (looksOf l its i).all fun t=>(List.range l.length).all fun j=>dstOf l j != some t || bit i j)
def itemOf (l:List Oper) (its:List AItem) (bit:Nat->Nat->Bool) (al:Nat->Bool) (π:List Nat) (i:Nat):AItem:=
 match its[i]? with
 | some it=>if effOf its i && !al i then { it with watch:=watchOf l its bit i (π.takeWhile (· != i)) } else it
 | none=>default
def planGo (N:Nat) (bit:Nat->Nat->Bool) (eff:Nat->Bool):Nat->List Nat->List Nat
 | 0,_ => []
 | f+1,dn=>
   let rd:=(List.range N).filter fun i => !dn.contains i && (List.range N).all fun j => !bit i j || dn.contains j
   match rd.find? (fun i => !eff i) with
   | some i=>i::planGo N bit eff f (i::dn)
   | none=>match rd with
     | i::_=>i::planGo N bit eff f (i::dn)
     | [] => []
def planOf (l:List Oper) (its:List AItem):List Nat:=planGo l.length (bitOf (befs l)) (effOf its) l.length []
def isAl (it:AItem):Bool:=
 match it.guard,it.op with
 | none,.e (.alloc _)=>true
 | _,_=>false
def alOf (l:List Oper) (its:List AItem) (bit:Nat->Nat->Bool) (i:Nat):Bool:=
 match its[i]? with
 | some it=>isAl it && (List.range l.length).all fun j => !bit i j
 | none=>false
def contOk (al:Nat->Bool) (π:List Nat):Bool:=((π.dropWhile fun i => !al i).dropWhile al).all fun i => !al i
def planQ (N:Nat) (bit:Nat->Nat->Bool) (eff:Nat->Bool):Nat->List Nat->List Nat
 | 0,_ => []
 | f+1,dn=>
   match (List.range N).find? fun i => !dn.contains i && !eff i && (List.range N).all fun j => !bit i j || dn.contains j with
   | some i=>i::planQ N bit eff f (i::dn)
   | none => []
def planAl (l:List Oper) (its:List AItem):List Nat:=
 let bit:=bitOf (befs l)
 let p:=planQ l.length bit (effOf its) l.length []++(List.range l.length).filter (alOf l its bit)
 p++planGo l.length bit (effOf its) l.length p.reverse
def nodupB:List Nat->Bool
 | []=>true
 | x::xs => !xs.contains x && nodupB xs
def permOk (N:Nat) (π:List Nat):Bool:=π.all (fun i=>decide (i<N)) && nodupB π && (List.range N).all fun i=>π.contains i
def compRw (l:List Oper) (its:List AItem) (fl:Bool) (π:List Nat):Option (List AItem):=
 let bit:=bitOf (befs l)
 let al:=fun i=>fl && alOf l its bit i
 if permOk l.length π && maskOk l (befs l) && ordOk l.length bit (effOf its) al [] π && tempsOk l bit (looksOf l its) && uniqOk l && (List.range l.length).all (readOk l its bit) && contOk al π then some (π.map (itemOf l its bit al π)) else none
def compR (P:Program) (n:Nat) (l:List Oper):Option (List AItem):=
 match compL P n l l with
 | some its=>
   match compRw l its false (planOf l its) with
   | some x=>some x
   | none=>compRw l its true (planAl l its)
 | none=>none
def cntT (N:Nat) (bit:Nat->Nat->Bool) (eff:Nat->Bool):Nat->Nat->List Nat->Option Nat
 | 0,b,_=>some b
 | f+1,b,pre=>
   match (List.range N).find? fun i => !eff i && canGo N bit pre i with
   | some i=>cntT N bit eff f b (pre ++ [i])
   | none=>((List.range N).filter (canGo N bit pre)).foldl (fun acc e=>match acc with
     | some (b+1)=>cntT N bit eff f b (pre ++ [e])
     | _=>none) (some b)
def flatT:ATree->ATree
 | .done => .done
 | .seg l t=>match flatT t with
   | .seg l' t' => .seg (l++l') t'
   | t' => .seg l t'
 | .both t u => .both (flatT t) (flatT u)
def compT (P:Program) (n:Nat) (l:List Oper):Option ATree:=
 match compL P n l l with
 | some its=>
   let bit:=bitOf (befs l)
   if maskOk l (befs l) && tempsOk l bit (looksOf l its) && uniqOk l && (List.range l.length).all (readOk l its bit) && (cntT l.length bit (effOf its) l.length 200 []).isSome then
    some (flatT (treeOf l.length bit (effOf its) (fun i=>its.getD i default) (fun pre e=>if isAl (its.getD e default) then [] else watchOf l its bit e pre) l.length []))
   else none
 | none=>none
section
variable {P:Program} {n:Nat} {l:List Oper}
theorem flatT_run {K:AFr->ASt->Prop}:∀ (t:ATree) (a:AFr) (σ:ASt),runT P (flatT t) K a σ->runT P t K a σ
 | .done,a,σ,h=>h
 | .seg l t,a,σ,h=>by
   have key:runI P l (runT P (flatT t) K) a σ:=by
    unfold flatT at h
    split at h
    ·rename_i l' t' e
     rw [e]
     simp only [runT,runI_app] at h ⊢
     exact h
    ·exact h
   exact runI_mono _ _ _ (fun a σ h=>flatT_run t a σ h) a σ key
 | .both t u,a,σ,h=>⟨flatT_run t a σ h.1,flatT_run u a σ h.2⟩
theorem maskOf_bit {m:List Nat} {o:Oper} {i:Nat} (h:(maskOf m o).testBit i=true):∃ e∈o.after,Region.binds .any e=true/\(i=e.on\/(m.getD e.on 0).testBit i=true):=by
 unfold maskOf at h
 have key:∀ es:List Edge,(es.foldr (fun e s=>(if Region.binds .any e then 2 ^ e.on ||| m.getD e.on 0 else 0) ||| s) 0).testBit i=true->∃ e∈es,Region.binds .any e=true/\(i=e.on\/(m.getD e.on 0).testBit i=true):=by
  intro es
  induction es with
  | nil=>intro h;simp at h
  | cons e es ih=>
    intro h
    simp only [List.foldr_cons,Nat.testBit_or,Bool.or_eq_true] at h
    rcases h with h|h
    ·split at h
     ·rename_i hb
      simp only [Nat.testBit_or,Bool.or_eq_true,Nat.testBit_two_pow,decide_eq_true_eq] at h
      exact ⟨e,by simp,hb,h.imp (fun h=>h.symm) id⟩
     ·simp at h
    ·obtain ⟨e',h1,h2⟩:=ih h
     exact ⟨e',by simp [h1],h2⟩
 obtain ⟨e,h1,h2⟩:=key _ h
 exact ⟨e,by simpa using h1,h2⟩
theorem maskOk_spec {m:List Nat} (h:maskOk l m=true) {j:Nat} {o:Oper} (ho:l[j]? = some o):m.getD j 0=maskOf m o/\∀ e∈o.after,Region.binds .any e=true->e.on<j:=by
 have hj:=(List.getElem?_eq_some_iff.1 ho).1
 simp only [maskOk,Bool.and_eq_true] at h
 have:=List.all_eq_true.1 h.2 j (List.mem_range.2 hj)
 simp only [ho,Bool.and_eq_true,beq_iff_eq,List.all_eq_true,Bool.or_eq_true,Bool.not_eq_true',decide_eq_true_eq] at this
 refine ⟨this.1,fun e he hb=>?_⟩
 rcases this.2 e (by simpa using he) with h1|h1
 ·rw [hb] at h1;cases h1
 ·exact h1
theorem mask_listed {m:List Nat} (h:maskOk l m=true) {L:Array Bool} (hc:RegClosed .any l.toArray L):∀ (j:Nat) (o:Oper),l[j]? = some o->(∀ e∈o.after,Region.binds .any e=true->L.getD e.on false=true) →
  ∀ i,bitOf m j i=true->L.getD i false=true:=by
 intro j
 induction j using Nat.strongRecOn with
 | _ j ih=>
   intro o ho hall i hb
   obtain ⟨h1,h2⟩:=maskOk_spec h ho
   unfold bitOf at hb
   rw [h1] at hb
   obtain ⟨e,he,hbn,hi⟩:=maskOf_bit hb
   have hL:=hall e he hbn
   rcases hi with rfl|hi
   ·exact hL
   ·have hlt:=h2 e he hbn
    have hjl:=(List.getElem?_eq_some_iff.1 ho).1
    obtain ⟨o',ho'⟩:∃ o',l[e.on]? = some o':=⟨l[e.on],by simp [show e.on<l.length by omega]⟩
    exact ih e.on hlt o' ho' (hc e.on o' (by simpa using ho') hL) i hi
theorem ordOk_spec {N:Nat} {bit:Nat->Nat->Bool} {eff al:Nat->Bool} (hbN:∀ i j,bit i j=true->j<N):∀ {post pre:List Nat},ordOk N bit eff al pre post=true->∀ p i r,post=p++i::r →
  (∀ j,bit i j=true->j∈pre\/j∈p)/\∀ e,e∈pre\/e∈p->eff e=true->bit i e=true\/(al e=true/\al i=true)
 | [],pre,_,p,i,r,h=>by simp at h
 | x::post,pre,h,p,i,r,hp=>by
   simp only [ordOk,Bool.and_eq_true,List.all_eq_true,Bool.or_eq_true,Bool.not_eq_true',or_assoc] at h
   obtain ⟨⟨h1,h2⟩,h3⟩:=h
   cases p with
   | nil=>
     simp only [List.nil_append,List.cons.injEq] at hp
     obtain ⟨rfl,rfl⟩:=hp
     refine ⟨fun j hj=>?_,fun e he hE=>?_⟩
     ·rcases h1 j (List.mem_range.2 (hbN _ _ hj)) with h4|h4
      ·rw [hj] at h4;cases h4
      ·exact .inl (by simpa using h4)
     ·rcases he with he|he
      ·rcases h2 e he with h4|h4
       ·rw [hE] at h4;cases h4
       ·exact h4
      ·cases he
   | cons y p=>
     simp only [List.cons_append,List.cons.injEq] at hp
     obtain ⟨rfl,hp⟩:=hp
     obtain ⟨h4,h5⟩:=ordOk_spec hbN h3 p i r hp
     refine ⟨fun j hj=>?_,fun e he hE=>h5 e ?_ hE⟩
     ·rcases h4 j hj with h6|h6
      ·rcases List.mem_cons.1 h6 with rfl|h6
       ·exact .inr (by simp)
       ·exact .inl h6
      ·exact .inr (by simp [h6])
     ·rcases he with he|he
      ·exact .inl (by simp [he])
      ·rcases List.mem_cons.1 he with rfl|he
       ·exact .inl (by simp)
       ·exact .inr he
theorem nodupB_spec:∀ {xs:List Nat},nodupB xs=true->xs.Nodup
 | [],_=>List.nodup_nil
 | x::xs,h=>by
   simp only [nodupB,Bool.and_eq_true,Bool.not_eq_true',List.contains_eq_mem,decide_eq_false_iff_not] at h
   exact List.nodup_cons.2 ⟨h.1,nodupB_spec h.2⟩
theorem permOk_spec {N:Nat} {π:List Nat} (h:permOk N π=true):(∀ i,i∈π↔i<N)/\π.Nodup:=by
 simp only [permOk,Bool.and_eq_true,List.all_eq_true,List.mem_range,decide_eq_true_eq] at h
 obtain ⟨⟨h1,h2⟩,h3⟩:=h
 exact ⟨fun i=>⟨h1 i,fun hi=>by simpa using h3 i hi⟩,nodupB_spec h2⟩
theorem Dst_iff {i t:Nat}:Dst l i t↔dstOf l i=some t:=by
 unfold Dst dstOf
 cases h:l[i]? with
 | none=>simp
 | some o=>simp
theorem compL_get:∀ {os:List Oper} {its:List AItem},compL P n l os=some its->its.length=os.length/\∀ (i:Nat) (o:Oper),os[i]? = some o->∃ it,its[i]? = some it/\compI P n l o=some it
 | [],its,h=>by injection h with h;subst h;exact ⟨rfl,fun i o ho=>by simp at ho⟩
 | x::os,its,h=>by
   unfold compL at h
   split at h
   ·rename_i it its' h1 h2
    injection h with h;subst h
    obtain ⟨h3,h4⟩:=compL_get h2
    refine ⟨by simp [h3],fun i o ho=>?_⟩
    cases i with
    | zero=>simp at ho;subst ho;exact ⟨it,rfl,h1⟩
    | succ i=>simp only [List.getElem?_cons_succ] at ho ⊢;exact h4 i o ho
   ·cases h
theorem takeWhile_pre {π pre post:List Nat} {e:Nat} (h:π=pre++e::post) (hn:e ∉ pre):π.takeWhile (· != e)=pre:=by
 subst h
 rw [List.takeWhile_append_of_pos (fun x hx=>by simp;rintro rfl;exact hn hx)]
 simp
theorem watchOf_mem {its:List AItem} {bit:Nat->Nat->Bool} {e i d:Nat} {q:QOp} {it:AItem} (h1:readsOf its i=some q) (h2:dstOf l i=some d) (h3:its[i]? = some it) (h4:bit e i=false):∀ {xs:List Nat},i∈xs →
  ({ guard:=it.guard,q:=q,dst:=d }:Watch)∈watchOf l its bit e xs
 | x::xs,h=>by
   unfold watchOf
   rcases List.mem_cons.1 h with rfl|h
   ·rw [h1,h2,h3]
    simp [h4]
   ·have ih:=watchOf_mem h1 h2 h3 h4 h
    split
    ·split
     ·exact ih
     ·exact List.mem_cons_of_mem _ ih
    ·exact ih
theorem dropWhile_head {p:Nat->Bool}:∀ {xs:List Nat} {u:Nat},u∈xs.takeWhile p->p u=true
 | x::xs,u,h=>by
   rw [List.takeWhile_cons] at h
   split at h
   ·rename_i hx
    rcases List.mem_cons.1 h with rfl|h
    ·exact hx
    ·exact dropWhile_head h
   ·cases h
theorem contOk_spec {al:Nat->Bool} {π:List Nat} (h:contOk al π=true):∃ U V W,π=U++(V++W)/\(∀ v∈V,al v=true)/\(∀ u∈U,al u=false)/\∀ u∈W,al u=false:=by
 refine ⟨π.takeWhile fun i => !al i,(π.dropWhile fun i => !al i).takeWhile al,(π.dropWhile fun i => !al i).dropWhile al,?_,fun v hv=>dropWhile_head hv,fun u hu=>?_,fun u hu=>?_⟩
 ·rw [List.takeWhile_append_dropWhile,List.takeWhile_append_dropWhile]
 ·have:=dropWhile_head hu
  simpa using this
 ·simp only [contOk,List.all_eq_true,Bool.not_eq_true'] at h
  exact h u hu
theorem isAl_spec {it:AItem} (h:isAl it=true) (hw:it.watch = []):∃ d z,it=⟨d,none,.e (.alloc z),[]⟩:=by
 obtain ⟨d,g,op,ws⟩:=it
 unfold isAl at h
 split at h
 ·rename_i z h1 h2
  simp only at h1 h2 hw
  subst h1;subst h2;subst hw
  exact ⟨d,z,rfl⟩
 ·cases h
theorem mask_lt {m:List Nat} (h:maskOk l m=true):∀ (i j:Nat),i<l.length->bitOf m i j=true->j<i:=by
 intro i
 induction i using Nat.strongRecOn with
 | _ i ih=>
   intro j hi hb
   obtain ⟨o,ho⟩:∃ o,l[i]? = some o:=⟨l[i],by simp [hi]⟩
   obtain ⟨h1,h2⟩:=maskOk_spec h ho
   unfold bitOf at hb
   rw [h1] at hb
   obtain ⟨e,he,hbn,hj⟩:=maskOf_bit hb
   have hlt:=h2 e he hbn
   rcases hj with rfl|hj
   ·exact hlt
   ·exact Nat.lt_trans (ih e.on hlt j (by omega) hj) hlt
theorem compRw_sound {its:List AItem} {fl:Bool} {π:List Nat} {items:List AItem} (hits:compL P n l l=some its) (h:compRw l its fl π=some items):∃ π eff looks bit al item,RegOk l eff looks bit/\PlanOk l π eff bit al looks item/\ItemsOk P n l eff looks al item/\items=π.map item:=by
 unfold compRw at h
 ·simp only at h
  split at h
  ·rename_i hc
   injection h with h;subst h
   simp only [Bool.and_eq_true] at hc
   obtain ⟨⟨⟨⟨⟨⟨hperm,hmask⟩,hord⟩,htemps⟩,huniq⟩,hread⟩,hcont⟩:=hc
   obtain ⟨hmem,hnd⟩:=permOk_spec hperm
   obtain ⟨hlen,hget⟩:=compL_get hits
   generalize hm:befs l=m at *
   have hbN:∀ i j,bitOf m i j=true->j<l.length:=by
    intro i j hb
    rcases Nat.lt_or_ge i l.length with hi|hi
    ·obtain ⟨o,ho⟩:∃ o,l[i]? = some o:=⟨l[i],by simp [hi]⟩
     obtain ⟨o',ho'⟩:∃ o',l[j]? = some o'\/l.length<=j:=by
      rcases Nat.lt_or_ge j l.length with h|h
      ·exact ⟨l[j],.inl (by simp [h])⟩
      ·exact ⟨default,.inr h⟩
     rcases ho' with ho'|ho'
     ·exact (List.getElem?_eq_some_iff.1 ho').1
     ·exfalso
      have hcl:RegClosed .any l.toArray (Array.replicate l.length true):=by
       intro k ok hok hk e he hb
       have:=(maskOk_spec hmask (by simpa using hok)).2 e he hb
       have hkl:k<l.length:=by
        rcases Nat.lt_or_ge k l.length with h|h
        ·exact h
        ·simp [Array.getElem?_eq_none (xs:=Array.replicate l.length true) (by simpa using h)] at hk
       simp [show e.on<l.length by omega]
      have:=mask_listed hmask hcl i o ho (fun e he hb=>by
       have:=(maskOk_spec hmask ho).2 e he hb
       simp [show e.on<l.length by omega]) j hb
      simp [Array.getElem?_eq_none (xs:=Array.replicate l.length true) (by simpa using ho')] at this
    ·have hml:m.length=l.length:=by
      simp only [maskOk,Bool.and_eq_true,beq_iff_eq] at hmask
      exact hmask.1
     simp only [bitOf,List.getD_eq_getElem?_getD,List.getElem?_eq_none (show m.length<=i by omega),Option.getD_none,Nat.zero_testBit,Bool.false_eq_true] at hb
   generalize hAL:(fun i=>fl && alOf l its (bitOf m) i)=al at *
   have halOf:∀ i,al i=true->alOf l its (bitOf m) i=true:=by
    intro i hi
    rw [<-hAL] at hi
    simp only [Bool.and_eq_true] at hi
    exact hi.2
   have hitem:∀ (i:Nat) (it:AItem),its[i]? = some it->itemOf l its (bitOf m) al π i=(if effOf its i && !al i then { it with watch:=watchOf l its (bitOf m) i (π.takeWhile (· != i)) } else it):=by
    intro i it hi
    simp only [itemOf,hi]
   have hgetI:∀ i,i<l.length->∃ o it,l[i]? = some o/\its[i]? = some it/\compI P n l o=some it:=by
    intro i hi
    obtain ⟨o,ho⟩:∃ o,l[i]? = some o:=⟨l[i],by simp [hi]⟩
    obtain ⟨it,h1,h2⟩:=hget i o ho
    exact ⟨o,it,ho,h1,h2⟩
   have hfields:∀ (i:Nat) (it:AItem),its[i]? = some it->(itemOf l its (bitOf m) al π i).dst=it.dst/\(itemOf l its (bitOf m) al π i).guard=it.guard/\(itemOf l its (bitOf m) al π i).op=it.op:=by
    intro i it hi
    rw [hitem i it hi]
    split<;>exact ⟨rfl,rfl,rfl⟩
   have heffq:∀ (i:Nat) (it:AItem),its[i]? = some it->(effOf its i=false↔∃ q,it.op = .q q):=by
    intro i it hi
    obtain ⟨d,g,op,ws⟩:=it
    unfold effOf
    rw [hi]
    cases op<;>simp
   refine ⟨π,effOf its,looksOf l its,bitOf m,al,itemOf l its (bitOf m) al π,?_,?_,?_,rfl⟩
   ·refine ⟨fun L j o hcl ho hall i hb=>mask_listed hmask hcl j o ho hall i hb,fun j o ho e he hb=>(maskOk_spec hmask ho).2 e he hb,fun i j hi hb=>mask_lt hmask i j hi hb,fun i j t o hi ht ho hd=>?_,fun i j t oi oj hoi hoj hdi hdj=>?_⟩
    ·have h1:=List.all_eq_true.1 htemps i (List.mem_range.2 hi)
     have h2:=List.all_eq_true.1 h1 t ht
     have h3:=List.all_eq_true.1 h2 j (List.mem_range.2 (List.getElem?_eq_some_iff.1 ho).1)
     have h4:dstOf l j=some t:=Dst_iff.1 ⟨o,ho,hd⟩
     simp only [h4,Bool.or_eq_true,Bool.and_eq_true,bne_iff_ne,ne_eq,not_true_eq_false,false_or] at h3
     exact h3
    ·have h1:=List.all_eq_true.1 huniq i (List.mem_range.2 (List.getElem?_eq_some_iff.1 hoi).1)
     have h2:=List.all_eq_true.1 h1 j (List.mem_range.2 (List.getElem?_eq_some_iff.1 hoj).1)
     have h3:dstOf l i=some t:=Dst_iff.1 ⟨oi,hoi,hdi⟩
     have h4:dstOf l j=some t:=Dst_iff.1 ⟨oj,hoj,hdj⟩
     simpa [h3,h4] using h2
   ·refine ⟨hmem,hnd,fun pre i post hp j hb=>?_,fun pre i post hp e he hE=>?_,fun i hi j=>?_,contOk_spec hcont,fun pre e post hp he hale i hi q hq hr hb=>?_⟩
    ·rcases (ordOk_spec hbN hord pre i post hp).1 j hb with h1|h1
     ·cases h1
     ·exact h1
    ·exact (ordOk_spec hbN hord pre i post hp).2 e (.inr he) hE
    ·have h1:=halOf i hi
     unfold alOf at h1
     split at h1
     ·simp only [Bool.and_eq_true,List.all_eq_true,List.mem_range,Bool.not_eq_true'] at h1
      cases hb:bitOf m i j with
      | false=>rfl
      | true=>rw [h1.2 j (hbN i j hb)] at hb;cases hb
     ·cases h1
    ·have hil:i<l.length:=(hmem i).1 (by rw [hp];simp [hi])
     have hel:e<l.length:=(hmem e).1 (by rw [hp];simp)
     obtain ⟨o,it,ho,h1,h2⟩:=hgetI i hil
     obtain ⟨oe,ite,hoe,h1e,h2e⟩:=hgetI e hel
     rw [(hfields i it h1).2.2] at hq
     have hro:readsOf its i=some q:=by
      obtain ⟨d,g,op,ws⟩:=it
      simp only at hq
      subst hq
      simp [readsOf,h1,hr]
     have h3:=List.all_eq_true.1 hread i (List.mem_range.2 hil)
     simp only [readOk,hro,Option.isNone_some,Bool.false_or,Bool.and_eq_true,List.all_eq_true,List.mem_range,Bool.or_eq_true,bne_iff_ne] at h3
     obtain ⟨h4,h5⟩:=h3
     obtain ⟨d,hd⟩:=Option.isSome_iff_exists.1 h4
     have hnd':(pre++e::post).Nodup:=hp▸hnd
     have hepre:e ∉ pre:=fun hm=>by
      rw [List.nodup_append] at hnd'
      exact hnd'.2.2 e hm e (by simp) rfl
     refine ⟨⟨d,Dst_iff.2 hd,?_⟩,fun t ht j hD=>?_⟩
     ·rw [hitem e ite h1e,he,hale,Bool.not_false,Bool.and_true,if_pos rfl,takeWhile_pre hp hepre,(hfields i it h1).2.1]
      exact watchOf_mem hro hd h1 hb hi
     ·rcases h5 t ht j hD.lt with h6|h6
      ·exact absurd (Dst_iff.1 hD) h6
      ·exact h6
   ·refine ⟨fun i o ho=>?_,fun i hi=>?_,fun i hi he=>?_,fun i q hi hq t ht=>?_,fun i o t ho ht=>?_,fun i t b hi hg=>?_,fun i hi hal=>?_⟩
    ·obtain ⟨it,h1,h2⟩:=hget i o ho
     rw [h2]
     have h3:=(compI_spec h2).2.2.2.1
     obtain ⟨h4,h5,h6⟩:=hfields i it h1
     show some it=some (AItem.mk (itemOf l its (bitOf m) al π i).dst (itemOf l its (bitOf m) al π i).guard (itemOf l its (bitOf m) al π i).op [])
     rw [h4,h5,h6]
     obtain ⟨d,g,op,ws⟩:=it
     simp only at h3
     subst h3
     rfl
    ·obtain ⟨o,it,ho,h1,h2⟩:=hgetI i hi
     rw [heffq i it h1,(hfields i it h1).2.2]
    ·obtain ⟨o,it,ho,h1,h2⟩:=hgetI i hi
     rw [hitem i it h1,he]
     exact (compI_spec h2).2.2.2.1
    ·obtain ⟨o,it,ho,h1,h2⟩:=hgetI i hi
     rw [(hfields i it h1).2.2] at hq
     unfold looksOf
     simp only [h1,hq]
     simp [ht]
    ·unfold looksOf
     simp only [ho]
     refine List.mem_append_left _ (List.mem_flatMap.2 ⟨_,ht,by simp [looksO]⟩)
    ·obtain ⟨o,it,ho,h1,h2⟩:=hgetI i hi
     rw [(hfields i it h1).2.1] at hg
     unfold looksOf
     simp only [h1,hg]
     simp
    ·obtain ⟨o,it,ho,h1,h2⟩:=hgetI i hi
     rw [hitem i it h1,hal,Bool.not_true,Bool.and_false,if_neg (by simp)]
     have h3:=halOf i hal
     unfold alOf at h3
     rw [h1] at h3
     simp only [Bool.and_eq_true] at h3
     exact isAl_spec h3.1 (compI_spec h2).2.2.2.1
  ·cases h
theorem compR_sound {items:List AItem} (h:compR P n l=some items):∃ π eff looks bit al item,RegOk l eff looks bit/\PlanOk l π eff bit al looks item/\ItemsOk P n l eff looks al item/\items=π.map item:=by
 unfold compR at h
 split at h
 ·rename_i its hits
  split at h
  ·rename_i x hx
   injection h with h;subst h
   exact compRw_sound hits hx
  ·exact compRw_sound hits h
 ·cases h
theorem compT_sound {t:ATree} (h:compT P n l=some t):∃ eff looks bit al item wat,RegOk l eff looks bit/\ItemsOk P n l eff looks al item ∧
  (∀ pre e,(∀ i∈pre,i<l.length)->e<l.length->eff e=true->(al e=true/\wat pre e = [])\/Watched l looks bit item pre e (wat pre e))/\t=flatT (treeOf l.length bit eff item wat l.length []):=by
 unfold compT at h
 split at h
 ·rename_i its hits
  simp only at h
  split at h
  ·rename_i hc
   injection h with h;subst h
   simp only [Bool.and_eq_true] at hc
   obtain ⟨⟨⟨⟨hmask,htemps⟩,huniq⟩,hread⟩,_⟩:=hc
   obtain ⟨hlen,hget⟩:=compL_get hits
   generalize hm:befs l=m at *
   have hgetI:∀ i,i<l.length->∃ o it,l[i]? = some o/\its[i]? = some it/\compI P n l o=some it:=by
    intro i hi
    obtain ⟨o,ho⟩:∃ o,l[i]? = some o:=⟨l[i],by simp [hi]⟩
    obtain ⟨it,h1,h2⟩:=hget i o ho
    exact ⟨o,it,ho,h1,h2⟩
   have hitem:∀ (i:Nat) (it:AItem),its[i]? = some it->its.getD i default=it:=by
    intro i it hi
    simp [List.getD_eq_getElem?_getD,hi]
   have heffq:∀ (i:Nat) (it:AItem),its[i]? = some it->(effOf its i=false↔∃ q,it.op = .q q):=by
    intro i it hi
    obtain ⟨d,g,op,ws⟩:=it
    unfold effOf
    rw [hi]
    cases op<;>simp
   refine ⟨effOf its,looksOf l its,bitOf m,fun i=>isAl (its.getD i default),fun i=>its.getD i default,_,?_,?_,?_,rfl⟩
   ·refine ⟨fun L j o hcl ho hall i hb=>mask_listed hmask hcl j o ho hall i hb,fun j o ho e he hb=>(maskOk_spec hmask ho).2 e he hb,fun i j hi hb=>mask_lt hmask i j hi hb,fun i j t o hi ht ho hd=>?_,fun i j t oi oj hoi hoj hdi hdj=>?_⟩
    ·have h1:=List.all_eq_true.1 htemps i (List.mem_range.2 hi)
     have h2:=List.all_eq_true.1 h1 t ht
     have h3:=List.all_eq_true.1 h2 j (List.mem_range.2 (List.getElem?_eq_some_iff.1 ho).1)
     have h4:dstOf l j=some t:=Dst_iff.1 ⟨o,ho,hd⟩
     simp only [h4,Bool.or_eq_true,Bool.and_eq_true,bne_iff_ne,ne_eq,not_true_eq_false,false_or] at h3
     exact h3
    ·have h1:=List.all_eq_true.1 huniq i (List.mem_range.2 (List.getElem?_eq_some_iff.1 hoi).1)
     have h2:=List.all_eq_true.1 h1 j (List.mem_range.2 (List.getElem?_eq_some_iff.1 hoj).1)
     have h3:dstOf l i=some t:=Dst_iff.1 ⟨oi,hoi,hdi⟩
     have h4:dstOf l j=some t:=Dst_iff.1 ⟨oj,hoj,hdj⟩
     simpa [h3,h4] using h2
   ·refine ⟨fun i o ho=>?_,fun i hi=>?_,fun i hi he=>?_,fun i q hi hq t ht=>?_,fun i o t ho ht=>?_,fun i t b hi hg=>?_,fun i hi hal=>?_⟩
    ·obtain ⟨it,h1,h2⟩:=hget i o ho
     rw [h2,hitem i it h1]
     have h3:=(compI_spec h2).2.2.2.1
     obtain ⟨d,g,op,ws⟩:=it
     simp only at h3
     subst h3
     rfl
    ·obtain ⟨o,it,ho,h1,h2⟩:=hgetI i hi
     rw [heffq i it h1,hitem i it h1]
    ·obtain ⟨o,it,ho,h1,h2⟩:=hgetI i hi
     rw [hitem i it h1]
     exact (compI_spec h2).2.2.2.1
    ·obtain ⟨o,it,ho,h1,h2⟩:=hgetI i hi
     rw [hitem i it h1] at hq
     unfold looksOf
     simp only [h1,hq]
     simp [ht]
    ·unfold looksOf
     simp only [ho]
     refine List.mem_append_left _ (List.mem_flatMap.2 ⟨_,ht,by simp [looksO]⟩)
    ·obtain ⟨o,it,ho,h1,h2⟩:=hgetI i hi
     rw [hitem i it h1] at hg
     unfold looksOf
     simp only [h1,hg]
     simp
    ·obtain ⟨o,it,ho,h1,h2⟩:=hgetI i hi
     rw [hitem i it h1] at hal ⊢
     exact isAl_spec hal (compI_spec h2).2.2.2.1
   ·intro pre e hbnd hel he
    dsimp only
    cases hal:isAl (its.getD e default) with
    | true=>exact .inl ⟨rfl,by simp⟩
    | false=>
      refine .inr fun i hi q hq hr hb=>?_
      have hil:=hbnd i hi
      obtain ⟨o,it,ho,h1,h2⟩:=hgetI i hil
      simp only [hitem i it h1] at hq ⊢
      have hro:readsOf its i=some q:=by
       obtain ⟨d,g,op,ws⟩:=it
       simp only at hq
       subst hq
       simp [readsOf,h1,hr]
      have h3:=List.all_eq_true.1 hread i (List.mem_range.2 hil)
      simp only [readOk,hro,Option.isNone_some,Bool.false_or,Bool.and_eq_true,List.all_eq_true,List.mem_range,Bool.or_eq_true,bne_iff_ne] at h3
      obtain ⟨h4,h5⟩:=h3
      obtain ⟨d,hd⟩:=Option.isSome_iff_exists.1 h4
      refine ⟨⟨d,Dst_iff.2 hd,?_⟩,fun t ht j hD=>?_⟩
      ·simp only [Bool.false_eq_true,if_false]
       exact watchOf_mem hro hd h1 hb hi
      ·rcases h5 t ht j hD.lt with h6|h6
       ·exact absurd (Dst_iff.1 hD) h6
       ·exact h6
  ·cases h
 ·cases h
end
end Go.A
namespace Go.A
inductive AExit where
 | normal
 | exit (id:Nat)
 | ret
def AExit.toExit:AExit->Exit
 | .normal => .normal
 | .exit id => .exit id
 | .ret => .ret
abbrev APost:=AExit->AFr->ASt->Prop
inductive ACode where
 | skip
 | ret
 | exit (id:Nat)
 | ops (l:List AItem)
 | tree (t:ATree)
 | seq (x y:ACode)
 | cond (c:Opd) (x y:ACode)
 | block (id:Nat) (x:ACode)
 | loop (x:ACode)
 | dfr (f:FuncId) (x:Opd) (d:Nat) (y:ACode)
 deriving Inhabited
/- What is known less well: that slices have no spare places,all the way down. -/
mutual
def deep:AV->AV
 | .sl _ xs => .sl .shr (deeps xs)
 | .agg xs => .agg (deeps xs)
 | .tuple xs => .tuple (deeps xs)
 | .iface t v => .iface t (deep v)
 | .any => .any
 | .bool b => .bool b
 | .int k n => .int k n
 | .str l => .str l
 | .ptr b o => .ptr b o
 | .imm cs => .imm cs
 | .nilp => .nilp
 | .msl b o n c => .msl b o n c
 | .nili => .nili
 | .func fn f c => .func fn f c
 | .nilf => .nilf
 | .map r => .map r
def deeps:List AV->List AV
 | [] => []
 | x::xs=>deep x::deeps xs
end
theorem deeps_len:∀ xs:List AV,(deeps xs).length=xs.length
 | []=>rfl
 | _::xs=>by simp [deeps,deeps_len xs]
theorem deep_cells (x:AV):(deep x).cells=deeps x.cells:=by
 cases x<;>simp [deep,deeps,AV.cells]
section
variable {σ:ASt} {w:World}
mutual
theorem Rep.deep:∀ {a:AV} {v:Value},Rep σ w a v->Rep σ w (Go.A.deep a) v
 | _,_,.any v=>by rw [Go.A.deep];exact .any v
 | _,_,.bool b=>by rw [Go.A.deep];exact .bool b
 | _,_,.int k n=>by rw [Go.A.deep];exact .int k n
 | _,_,.str l=>by rw [Go.A.deep];exact .str l
 | _,_,.ptr b o=>by rw [Go.A.deep];exact .ptr b o
 | _,_,.imm h=>by rw [Go.A.deep];exact .imm h
 | _,_,.nilp=>by rw [Go.A.deep];exact .nilp
 | _,_,.slE A c=>by rw [Go.A.deep,Go.A.deeps];exact .slE A c
 | _,_,.slN=>by rw [Go.A.deep,Go.A.deeps];exact .slE none 0
 | _,_,.sl h1 h2 h3 h4 h5=>by rw [Go.A.deep];exact .sl (Row.deep h1) (by rw [deeps_len];exact h2) h3 trivial h5
 | _,_,.msl b o n c=>by rw [Go.A.deep];exact .msl b o n c
 | _,_,.agg h=>by rw [Go.A.deep];exact .agg (Reps.deep h)
 | _,_,.tuple h=>by rw [Go.A.deep];exact .tuple (Reps.deep h)
 | _,_,.iface h=>by rw [Go.A.deep];exact .iface (Rep.deep h)
 | _,_,.nili=>by rw [Go.A.deep];exact .nili
 | _,_,.func h1 h2=>by rw [Go.A.deep];exact .func h1 h2
 | _,_,.nilf=>by rw [Go.A.deep];exact .nilf
 | _,_,.map r=>by rw [Go.A.deep];exact .map r
theorem Reps.deep:∀ {as:List AV} {vs:List Value},Reps σ w as vs->Reps σ w (Go.A.deeps as) vs
 | _,_,.nil => .nil
 | _,_,.cons h1 h2 => .cons (Rep.deep h1) (Reps.deep h2)
theorem At.deep:∀ {b o:Nat} {as:List AV},At σ w b o as->At σ w b o (Go.A.deeps as)
 | _,_,_,.nil b o => .nil b o
 | _,_,_,.cons h1 h2 h3 h4 => .cons h1 h2 (Rep.deep h3) (At.deep h4)
theorem Row.deep:∀ {b o sz:Nat} {as:List AV},Row σ w b o sz as->Row σ w b o sz (Go.A.deeps as)
 | _,_,_,_,.nil b o sz => .nil b o sz
 | _,_,_,_,.cons (x:=x) h1 h2 h3 => .cons (by rw [deep_cells,deeps_len];exact h1) (by rw [deep_cells];exact At.deep h2) (Row.deep h3)
end
end
def Drop (σ σ':ASt):Prop:=∀ b,σ' b=σ b\/σ' b=none
theorem Drop.refl (σ:ASt):Drop σ σ:=fun _ => .inl rfl
def SDrop (σ σ':ASt):Prop:=∀ b,σ' b=σ b\/σ' b=none\/∃ cs,σ b=some (.obj cs)/\σ' b=some (.obj (deeps cs))
theorem Drop.s {σ σ':ASt} (h:Drop σ σ'):SDrop σ σ':=fun b=>(h b).imp id .inl
theorem SDrop.refl (σ:ASt):SDrop σ σ:=(Drop.refl σ).s
mutual
inductive Fz (σ σ':ASt):AV->AV->Prop
 | refl (a:AV):Fz σ σ' a a
 | any (a:AV):Fz σ σ' a .any
 | deep (a:AV):Fz σ σ' a (Go.A.deep a)
 | sl (k:SK) (xs:List AV):Fz σ σ' (.sl k xs) (.sl .shr xs)
 | ptr {b:Nat} (o:Nat) {cs:List AV}:σ b=some (.obj cs)->σ' b=none->Fz σ σ' (.ptr b o) (.imm (cs.drop o))
 | msl {b:Nat} (o n c s:Nat) {cs:List AV} (xs:List AV):σ b=some (.obj cs)->σ' b=none->n=xs.length->n<=c->(∀ x∈xs,x.cells.length=s)->xs.flatMap AV.cells=(cs.drop o).take (n*s)->Fz σ σ' (.msl b o n c) (.sl .shr xs)
 | agg {xs ys:List AV}:Fzs σ σ' xs ys->Fz σ σ' (.agg xs) (.agg ys)
 | tuple {xs ys:List AV}:Fzs σ σ' xs ys->Fz σ σ' (.tuple xs) (.tuple ys)
inductive Fzs (σ σ':ASt):List AV->List AV->Prop
 | nil:Fzs σ σ' [] []
 | cons {x y:AV} {xs ys:List AV}:Fz σ σ' x y->Fzs σ σ' xs ys->Fzs σ σ' (x::xs) (y::ys)
end
structure DropTo (a:AFr) (σ:ASt) (a':AFr) (σ':ASt):Prop where
 roles:SDrop σ σ'
 vals:∀ t,Fz σ σ' (a t) (a' t)
theorem DropTo.refl (a:AFr) (σ:ASt):DropTo a σ a σ:=⟨SDrop.refl σ,fun _ => .refl _⟩
def Dr (F:AFr->ASt->Prop) (a:AFr) (σ:ASt):Prop:=∃ a' σ',DropTo a σ a' σ'/\F a' σ'
theorem Dr.now {F:AFr->ASt->Prop} {a:AFr} {σ:ASt} (h:F a σ):Dr F a σ:=⟨a,σ,.refl a σ,h⟩
section
variable {σ σ':ASt} {w:World}
theorem Drop.le (h:Drop σ σ') (w:World):Le σ w σ' w:=by
 refine ⟨rfl,rfl,rfl,Nat.le_refl _,fun b _ hb=>⟨?_,rfl⟩,fun b cs _ hb=>⟨?_,rfl⟩,fun b f _ hb=>⟨?_,rfl,fun _ _=>rfl⟩⟩
 ·rcases h b with h1|h1
  ·rw [h1,hb]
  ·exact h1
 ·rcases h b with h1|h1
  ·exact .inr (by rw [h1,hb])
  ·exact .inl h1
 ·rcases h b with h1|h1
  ·exact .inr ⟨f,Nat.le_refl _,by rw [h1,hb]⟩
  ·exact .inl h1
theorem Drop.sim (h:Drop σ σ') (hs:Sim σ w):Sim σ' w:=by
 intro b r hb
 have:σ b=some r:=by
  rcases h b with h1|h1
  ·rw [<-h1,hb]
  ·rw [h1] at hb;cases hb
 exact (hs b r this).keep (h.le w) rfl
theorem SDrop.le (h:SDrop σ σ') (w:World):Le σ w σ' w:=by
 refine ⟨rfl,rfl,rfl,Nat.le_refl _,fun b _ hb=>⟨?_,rfl⟩,fun b cs _ hb=>⟨?_,rfl⟩,fun b f _ hb=>⟨?_,rfl,fun _ _=>rfl⟩⟩
 ·rcases h b with h1|h1|⟨cs,h1,h2⟩
  ·rw [h1,hb]
  ·exact h1
  ·rw [hb] at h1;cases h1
 ·rcases h b with h1|h1|⟨cs',h1,h2⟩
  ·exact .inr (by rw [h1,hb])
  ·exact .inl h1
  ·rw [hb] at h1;cases h1
 ·rcases h b with h1|h1|⟨cs',h1,h2⟩
  ·exact .inr ⟨f,Nat.le_refl _,by rw [h1,hb]⟩
  ·exact .inl h1
  ·rw [hb] at h1;cases h1
theorem SDrop.sim (h:SDrop σ σ') (hs:Sim σ w):Sim σ' w:=by
 intro b r hb
 rcases h b with h1|h1|⟨cs,h1,h2⟩
 ·rw [hb] at h1
  exact (hs b r h1.symm).keep (h.le w) rfl
 ·rw [h1] at hb;cases hb
 ·rw [h2] at hb
  injection hb with hb
  subst hb
  obtain ⟨c,T,fr,h3,h4,h5⟩:=(hs b _ h1).keep (h.le w) rfl
  exact ⟨c,T,fr,h3,by rw [deeps_len];exact h4.deep,h5⟩
mutual
theorem Fz.rep (hd:SDrop σ σ') (hs:Sim σ w):∀ {a a':AV} {v:Value},Fz σ σ' a a'->Rep σ w a v->Rep σ' w a' v
 | _,_,_,.refl a,h=>h.mono (hd.le w)
 | _,_,_,.any a,h => .any _
 | _,_,_,.deep a,h=>(h.mono (hd.le w)).deep
 | _,_,_,.sl k xs,h=>by
   have h:=h.mono (hd.le w)
   cases h with
   | slE A c=>exact .slE A c
   | slN=>exact .slE none 0
   | sl h1 h2 h3 h4 h5=>exact .sl h1 h2 h3 trivial h5
 | _,_,_,.ptr o hb hn,h=>by
   cases h
   obtain ⟨vs,h1,h2,_⟩:=hs.objCell hb
   refine .imm (At.mk' ((h1.mono (hd.le w)).drop o) (fun j hj=>⟨hs.lt hb,.inl hn⟩) (fun j v hj=>h2 (o+j) v (by simpa using hj)))
 | _,_,_,.msl o n c s xs hb hn hl hc hz hf,h=>by
   cases h
   obtain ⟨vs,h1,h2,_⟩:=hs.objCell hb
   refine .sl (sz:=s) (Row.unflat hz ?_) hl hc trivial (hs.lt hb)
   rw [hf]
   refine (At.mk' ((h1.mono (hd.le w)).drop o) (fun j hj=>⟨hs.lt hb,.inl hn⟩) (fun j v hj=>h2 (o+j) v (by simpa using hj))).take _
 | _,_,_,.agg hx,h=>by
   cases h with
   | agg h=>exact .agg (Fzs.rep hd hs hx h)
 | _,_,_,.tuple hx,h=>by
   cases h with
   | tuple h=>exact .tuple (Fzs.rep hd hs hx h)
theorem Fzs.rep (hd:SDrop σ σ') (hs:Sim σ w):∀ {as bs:List AV} {vs:List Value},Fzs σ σ' as bs->Reps σ w as vs->Reps σ' w bs vs
 | _,_,_,.nil,.nil => .nil
 | _,_,_,.cons h1 h2,.cons h3 h4 => .cons (h1.rep hd hs h3) (h2.rep hd hs h4)
end
theorem DropTo.fr {n:Nat} {D:List Deferred} {a a':AFr} {act:Act} (h:DropTo a σ a' σ') (hs:Sim σ w) (hf:FRel n D σ w a act):FRel n D σ' w a' act:=
 ⟨hf.size,hf.defers,fun t ht=>(h.vals t).rep h.roles hs (hf.rep t ht)⟩
end
def loopWp (F:APost->AFr->ASt->Prop) (Q:APost) (a:AFr) (σ:ASt):Prop:=
 ∃ I:Nat->AFr->ASt->Prop,(∃ k,Dr (I k) a σ)/\∀ k a σ,I k a σ->F (fun e a' σ'=>match e with
  | .normal=>∃ m,m<k/\Dr (I m) a' σ'
  | e=>Q e a' σ') a σ
def SeqQ (F:APost->AFr->ASt->Prop) (Q:APost):APost:=fun e a σ=>match e with
 | .normal=>F Q a σ
 | e=>Q e a σ
def BlockQ (id:Nat) (Q:APost):APost:=fun e a σ=>match e with
 | .exit j=>if j=id then Q .normal a σ else Q (.exit j) a σ
 | e=>Q e a σ
def condWp (v:AV) (p q:Prop):Prop:=
 match v with
 | .bool b=>if b=true then p else q
 | _=>False
def ADefer (P:Program) (f:FuncId) (args:List AV) (σ:ASt) (R:AV->ASt->Prop):Prop:=
 ∀ (w:World) (vs:List Value),Sim σ w->Reps σ w args vs->CallsD P f ⟨vs⟩ .returning w fun e u' w'=>u' = .returning/\∃ u r σ',e = .returned u/\R r σ'/\Le σ w σ' w'/\Sim σ' w'/\Rep σ' w' r u
theorem ADefer.mono {P:Program} {f:FuncId} {args:List AV} {σ:ASt} {R R':AV->ASt->Prop} (h:ADefer P f args σ R) (hr:∀ r σ',R r σ'->R' r σ'):ADefer P f args σ R':=
 fun w vs hs ha=>(h w vs hs ha).mono fun _ _ _ ⟨h0,u,r,σ',he,h1,h2⟩=>⟨h0,u,r,σ',he,hr _ _ h1,h2⟩
def DfrQ (P:Program) (f:FuncId) (v:AV) (Q:APost):APost:=fun e a σ=>match e with
 | .ret=>ADefer P f [v] σ fun _ σ'=>Q .ret a σ'
 | _=>False
def ACode.wp (P:Program):ACode->APost->AFr->ASt->Prop
 | .skip,Q,a,σ=>Q .normal a σ
 | .ret,Q,a,σ=>Q .ret a σ
 | .exit id,Q,a,σ=>Q (.exit id) a σ
 | .ops l,Q,a,σ=>runI P l (Q .normal) a σ
 | .tree t,Q,a,σ=>runT P t (Q .normal) a σ
 | .seq x y,Q,a,σ=>x.wp P (SeqQ (y.wp P) Q) a σ
 | .cond c x y,Q,a,σ=>condWp (c.ev a) (x.wp P Q a σ) (y.wp P Q a σ)
 | .block id x,Q,a,σ=>x.wp P (BlockQ id Q) a σ
 | .loop x,Q,a,σ=>loopWp (x.wp P) Q a σ
 | .dfr f x d y,Q,a,σ=>y.wp P (DfrQ P f (x.ev a) Q) (a.upd d (x.ev a)) σ
def dferOf (P:Program) (n:Nat):Code->Option (FuncId×Opd×Nat)
 | .region _ ops false=>match ops.toList with
   | [o1,o2]=>match compI P n [o1,o2] o1,o2.op,o2.dst,o2.guard with
     | some ⟨some d,none,.q (.mv x),[]⟩,.defer { callee := .value (.func f),args:=⟨[.tmp d']⟩,argTypes:=_ },none,none=>if d=d'/\d<n/\okFn P f=true then some (f,x,d) else none
     | _,_,_,_=>none
   | _=>none
 | _=>none
def compC (P:Program) (n:Nat):Code->Option ACode
 | .skip=>some .skip
 | .ret=>some .ret
 | .exit id=>some (.exit id)
 | .region _ ops draw=>if draw then (if P.follows .mixedOrders then (match compR P n ops.toList with
   | some x=>some (.ops x)
   | none=>(compT P n ops.toList).map .tree) else none) else (compL P n ops.toList ops.toList).map .ops
 | .seq x y=>match dferOf P n x with
   | some (f,v,d)=>(compC P n y).map (.dfr f v d)
   | none=>match compC P n x,compC P n y with
     | some x,some y=>some (.seq x y)
     | _,_=>none
 | .cond c x y=>match opd c,compC P n x,compC P n y with
   | some c',some x,some y=>if tmpOk n c then some (.cond c' x y) else none
   | _,_,_=>none
 | .block id x=>(compC P n x).map (.block id)
 | .loop x=>(compC P n x).map .loop
 | _=>none
def Chain (P:Program):List Deferred->ASt->World->(ASt->Prop)->Prop
 | [],σ,_,K=>K σ
 | d::ds,σ,w,K=>∃ f v u,d=⟨.fn (.func f) #[], #[u]⟩/\okFn P f=true/\Rep σ w v u/\ADefer P f [v] σ fun _ σ'=>∀ w',Le σ w σ' w'->Sim σ' w'->Chain P ds σ' w' K
theorem Chain.snoc {P:Program} {f:FuncId} {v:AV} {u:Value} (hf:okFn P f=true) {K:ASt->Prop}:∀ {ds:List Deferred} {σ:ASt} {w:World},Rep σ w v u->Chain P ds σ w (fun σ'=>ADefer P f [v] σ' fun _ σ''=>K σ'') →
  Chain P (ds ++ [⟨.fn (.func f) #[], #[u]⟩]) σ w K
 | [],σ,w,hr,h=>⟨f,v,u,rfl,hf,hr,h.mono fun _ _ hk _ _ _=>hk⟩
 | d::ds,σ,w,hr,h=>by
   obtain ⟨g,v',u',h1,h2,h3,h4⟩:=h
   exact ⟨g,v',u',h1,h2,h3,h4.mono fun _ σ' hk w' hl hs=>Chain.snoc hf (hr.mono hl) (hk w' hl hs)⟩
def ACode.nd:ACode->Bool
 | .seq x y=>x.nd && y.nd
 | .cond _ x y=>x.nd && y.nd
 | .block _ x=>x.nd
 | .loop x=>x.nd
 | .dfr _ _ _ _=>false
 | _=>true
def QP (P:Program) (n:Nat) (D:List Deferred) (σ0:ASt) (w0:World) (Q:APost) (nd:Bool):Exit->Act->World->Prop:=fun e act w=>
 ∃ x a σ ds,e=x.toExit/\(ds ≠ []->x = .ret/\nd=false)/\Chain P ds σ w (fun σ'=>Q x a σ')/\Le σ0 w0 σ w/\Sim σ w/\FRel n (ds++D) σ w a act
section
variable {P:Program} {n:Nat} {D:List Deferred}
theorem least_ex {p:Nat->Prop} (h:∃ k,p k):∃ k,p k/\∀ m,p m->k<=m:=by
 obtain ⟨k,hk⟩:=h
 induction k using Nat.strongRecOn with
 | _ k ih=>
   by_cases hex:∃ m,m<k/\p m
   ·obtain ⟨m,hm,hp⟩:=hex
    exact ih m hm hp
   ·exact ⟨k,hk,fun m hm=>Nat.le_of_not_lt fun hlt=>hex ⟨m,hlt,hm⟩⟩
noncomputable def least {p:Nat->Prop} (h:∃ k,p k):Nat:=Classical.choose (least_ex h)
theorem least_spec {p:Nat->Prop} (h:∃ k,p k):p (least h):=(Classical.choose_spec (least_ex h)).1
theorem least_min {p:Nat->Prop} (h:∃ k,p k) {m:Nat} (hm:p m):least h<=m:=(Classical.choose_spec (least_ex h)).2 m hm
theorem dferOf_spec {x:Code} {f:FuncId} {v:Opd} {d:Nat} (h:dferOf P n x=some (f,v,d)):∃ id ops o1 o2 tys,x = .region id ops false/\ops.toList = [o1,o2]/\compI P n [o1,o2] o1=some ⟨some d,none,.q (.mv v),[]⟩ ∧
  o2.op = .defer { callee := .value (.func f),args:=⟨[.tmp d]⟩,argTypes:=tys }/\o2.dst=none/\o2.guard=none/\d<n/\okFn P f=true:=by
 unfold dferOf at h
 split at h
 ·rename_i id ops
  split at h
  ·rename_i o1 o2 hops
   split at h
   ·rename_i d1 v1 f1 d2 tys h1 h2 h3 h4
    split at h
    ·rename_i hc
     simp only [Option.some.injEq,Prod.mk.injEq] at h
     obtain ⟨rfl,rfl,rfl⟩:=h
     obtain ⟨rfl,h5,h6⟩:=hc
     exact ⟨id,ops,o1,o2,tys,rfl,hops,h1,h2,h3,h4,h5,h6⟩
    ·cases h
   ·cases h
  ·cases h
 ·cases h
theorem QP.weak {σ0:ASt} {w0:World} {Q:APost} {b b':Bool} (hb:b=false->b'=false) {e:Exit} {act:Act} {w:World} (h:QP P n D σ0 w0 Q b e act w):QP P n D σ0 w0 Q b' e act w:=by
 obtain ⟨x,a,σ,ds,h1,h2,h3⟩:=h
 exact ⟨x,a,σ,ds,h1,fun hn=>⟨(h2 hn).1,hb (h2 hn).2⟩,h3⟩
theorem compC_sound:∀ (c:Code) (ac:ACode),compC P n c=some ac->∀ (D:List Deferred) (Q:APost) (a:AFr) (σ:ASt) (act:Act) (w:World),ac.wp P Q a σ->Sim σ w->FRel n D σ w a act->∀ (σ0:ASt) (w0:World),Le σ0 w0 σ w->c.wp P (QP P n D σ0 w0 Q ac.nd) act w
 | .skip,ac,hc,D,Q,a,σ,act,w,h,hs,hf,σ0,w0,hl=>by
   injection hc with hc;subst hc
   exact wp_skip ⟨.normal,a,σ,[],rfl,fun h=>absurd rfl h,h,hl,hs,hf⟩
 | .ret,ac,hc,D,Q,a,σ,act,w,h,hs,hf,σ0,w0,hl=>by
   injection hc with hc;subst hc
   exact wp_ret ⟨.ret,a,σ,[],rfl,fun h=>absurd rfl h,h,hl,hs,hf⟩
 | .exit id,ac,hc,D,Q,a,σ,act,w,h,hs,hf,σ0,w0,hl=>by
   injection hc with hc;subst hc
   exact wp_exit ⟨.exit id,a,σ,[],rfl,fun h=>absurd rfl h,h,hl,hs,hf⟩
 | .region id ops draw,ac,hc,D,Q,a,σ,act,w,h,hs,hf,σ0,w0,hl=>by
   have hQ:∀ a σ act w,Q .normal a σ->Le σ0 w0 σ w->Sim σ w->FRel n D σ w a act->QP P n D σ0 w0 Q true .normal act w:=fun a σ act w h1 h2 h3 h4=>⟨.normal,a,σ,[],rfl,fun h=>absurd rfl h,h1,h2,h3,h4⟩
   simp only [compC] at hc
   cases draw with
   | false=>
     simp only [Bool.false_eq_true,if_false] at hc
     cases hL:compL P n ops.toList ops.toList with
     | none=>rw [hL] at hc;cases hc
     | some its=>
       rw [hL] at hc
       simp only [Option.map_some,Option.some.injEq] at hc
       subst hc
       have:=run_plain hQ ops.toList 0 its rfl hL a σ act w h hl hs hf
       refine wp_region ?_
       rw [List.range_eq_range',show (ACode.ops its).nd=true from rfl]
       simpa using this
   | true=>
     simp only [if_true] at hc
     split at hc
     ·rename_i hm
      cases hL:compR P n ops.toList with
      | some its=>
        rw [hL] at hc
        simp only [Option.some.injEq] at hc
        subst hc
        obtain ⟨π,eff,looks,bit,al,item,hP,hO,hI,rfl⟩:=compR_sound hL
        have:=run_drawn (P:=P) (K:=Q .normal) (id:=id) (R:=Lin P ops.toList eff bit al looks item (Q .normal)) hm hP hI (lin_runs hI hP.uniq) hQ ⟨π,hO,h⟩ hl hs hf
        rw [show (ACode.ops (List.map item π)).nd=true from rfl]
        simpa using this
      | none=>
        rw [hL] at hc
        cases hT:compT P n ops.toList with
        | none=>rw [hT] at hc;cases hc
        | some t=>
          rw [hT] at hc
          simp only [Option.map_some,Option.some.injEq] at hc
          subst hc
          obtain ⟨eff,looks,bit,al,item,wat,hP,hI,hw,rfl⟩:=compT_sound hT
          have:=run_drawn (P:=P) (K:=Q .normal) (id:=id) (R:=Tre P ops.toList eff bit item wat (Q .normal)) hm hP hI (tre_runs hP hw) hQ ⟨_,Nat.le_trans List.countP_le_length (by simp),flatT_run _ _ _ h⟩ hl hs hf
          show Code.wp P _ (QP P n D σ0 w0 Q true) act w
          simpa using this
     ·cases hc
 | .seq x y,ac,hc,D,Q,a,σ,act,w,h,hs,hf,σ0,w0,hl=>by
   simp only [compC] at hc
   split at hc
   ·rename_i f v d hd
    cases hy:compC P n y with
    | none=>rw [hy] at hc;cases hc
    | some y'=>
      rw [hy] at hc
      simp only [Option.map_some,Option.some.injEq] at hc
      subst hc
      obtain ⟨id,ops,o1,o2,tys,rfl,hops,hI,hop,hdst,hg,hdn,hok⟩:=dferOf_spec hd
      refine wp_seq (wp_region ?_)
      obtain ⟨hd1,hg1,ho1,hw1,hdn1,hln1,hgn1⟩:=compI_spec hI
      dsimp only at hd1 hg1 ho1 hln1
      have hsz:ops.size=2:=by rw [<-Array.length_toList,hops];rfl
      have e0:ops[0]? = some o1:=by rw [<-Array.getElem?_toList,hops];rfl
      have e1:ops[1]? = some o2:=by rw [<-Array.getElem?_toList,hops];rfl
      rw [hsz]
      show wpOps P ops _ [0,1] act w
      have hw2:∀ act':Act,Region.wanted o2 (yielded ops act'.tmps)=true:=fun act'=>by simp [Region.wanted,hg]
      simp only [wpOps,e0,e1]
      rw [if_pos (by have:=guard_none hg1 act.tmps;rwa [<-hops] at this)]
      refine .inl (compO_wp (n:=n) (K:=fun u σ'=>u=v.ev a/\σ'=σ) ho1 hs (fun t ht=>hf.rep t (hln1 t ht)) ?_ ?_)
      ·simp only [AOp.step,QOp.ev]
       exact ⟨trivial,trivial⟩
      ·rintro u σ' uv w' ⟨rfl,rfl⟩ hl' hs' hr'
       rw [if_pos (hw2 _)]
       have hput:=(hf.mono hl').put o1.dst (fun d' hd'=>hdn1 d' hd') hr'
       rw [<-hd1] at hput ⊢
       refine .inl ?_
       have hev:(act.put (some d) uv).eval (.tmp d)=uv:=by
        have h1:(act.put (some d) uv).tmps.getD d undef=uv:=by
         have hlt:d<act.tmps.size:=by rw [hf.size];exact hdn
         simp [Act.put,Array.getD_eq_getD_getElem?,hlt]
        exact h1
       have hrun:(execOp (act.put (some d) uv).eval o2).run P w' = .ok (.defer ⟨.fn (.func f) #[], #[uv]⟩) w':=by
        simp only [execOp,hop,resolve,Sem.run_bind]
        have:(Array.map (act.put (some d) uv).eval ⟨[Operand.tmp d]⟩) = #[uv]:=by
         apply Array.ext'
         simp [hev]
        rw [this]
        rfl
       unfold Oper.wp
       rw [hrun,Oper.upon_defer,hdst]
       have hf2:FRel n (⟨.fn (.func f) #[], #[uv]⟩::D) σ' w' (a.put (some d) (v.ev a)) ({ act.put (some d) uv with defers:=⟨.fn (.func f) #[], #[uv]⟩::(act.put (some d) uv).defers }:Act):=
        ⟨hput.size,congrArg (_ :: ·) hput.defers,hput.rep⟩
       refine wp_mono (compC_sound y y' hy _ (DfrQ P f (v.ev a) Q) _ σ' _ w' h hs' hf2 σ' w' (Le.refl _ _)) ?_
       rintro e act' w'' ⟨ex,a',σ'',ds,rfl,h0,h1,h2,h3,h4⟩
       have hex:ex = .ret:=by
        cases ds with
        | nil=>
          cases ex with
          | ret=>rfl
          | normal=>exact h1.elim
          | exit j=>exact h1.elim
        | cons d ds=>exact (h0 (by simp)).1
       subst hex
       refine ⟨.ret,a',σ'',ds ++ [⟨.fn (.func f) #[], #[uv]⟩],rfl,fun _=>⟨rfl,rfl⟩,Chain.snoc hok (hr'.mono h2) h1,(hl.trans hl').trans h2,h3,?_⟩
       rw [List.append_assoc]
       exact h4
   ·split at hc
    ·rename_i x' y' hx hy
     injection hc with hc;subst hc
     refine wp_seq (wp_mono (compC_sound x x' hx D _ a σ act w h hs hf σ0 w0 hl) ?_)
     rintro e act' w' ⟨ex,a',σ',ds,rfl,h0,h1,h2,h3,h4⟩
     cases ex with
     | normal=>
       obtain rfl:ds = []:=Classical.byContradiction fun hn=>by cases (h0 hn).1
       exact wp_mono (compC_sound y y' hy D Q a' σ' act' w' h1 h3 h4 σ0 w0 h2) fun _ _ _ hq=>QP.weak (fun hb=>by rw [show (ACode.seq x' y').nd=(x'.nd && y'.nd) from rfl,hb,Bool.and_false]) hq
     | exit id=>
       obtain rfl:ds = []:=Classical.byContradiction fun hn=>by cases (h0 hn).1
       exact ⟨.exit id,a',σ',[],rfl,fun h=>absurd rfl h,h1,h2,h3,h4⟩
     | ret=>exact ⟨.ret,a',σ',ds,rfl,fun hn=>⟨rfl,by rw [show (ACode.seq x' y').nd=(x'.nd && y'.nd) from rfl,(h0 hn).2,Bool.false_and]⟩,h1,h2,h3,h4⟩
    ·cases hc
 | .cond c x y,ac,hc,D,Q,a,σ,act,w,h,hs,hf,σ0,w0,hl=>by
   simp only [compC] at hc
   split at hc
   ·rename_i c' x' y' hcv hx hy
    split at hc
    ·rename_i ht
     injection hc with hc;subst hc
     have hr:=opd_rep (σ:=σ) (w:=w) (act:=act) (a:=a) hcv (fun t htt=>hf.rep t (by subst htt;simpa [tmpOk] using ht))
     simp only [ACode.wp] at h
     generalize hcx:c'.ev a=cv at h hr
     cases cv<;>simp only [condWp] at h
     rename_i b
     generalize hu:act.eval c=u at hr
     cases hr
     cases b
     ·exact wp_cond_false hu (wp_mono (compC_sound y y' hy D Q a σ act w (by simpa using h) hs hf σ0 w0 hl) fun _ _ _ hq=>QP.weak (fun hb=>by rw [show (ACode.cond c' x' y').nd=(x'.nd && y'.nd) from rfl,hb,Bool.and_false]) hq)
     ·exact wp_cond_true hu (wp_mono (compC_sound x x' hx D Q a σ act w (by simpa using h) hs hf σ0 w0 hl) fun _ _ _ hq=>QP.weak (fun hb=>by rw [show (ACode.cond c' x' y').nd=(x'.nd && y'.nd) from rfl,hb,Bool.false_and]) hq)
    ·cases hc
   ·cases hc
 | .block id x,ac,hc,D,Q,a,σ,act,w,h,hs,hf,σ0,w0,hl=>by
   simp only [compC] at hc
   cases hx:compC P n x with
   | none=>rw [hx] at hc;cases hc
   | some x'=>
     rw [hx] at hc
     simp only [Option.map_some,Option.some.injEq] at hc
     subst hc
     refine wp_block (wp_mono (compC_sound x x' hx D _ a σ act w h hs hf σ0 w0 hl) ?_)
     rintro e act' w' ⟨ex,a',σ',ds,rfl,h0,h1,h2,h3,h4⟩
     cases ex with
     | normal=>
       obtain rfl:ds = []:=Classical.byContradiction fun hn=>by cases (h0 hn).1
       exact ⟨.normal,a',σ',[],rfl,fun h=>absurd rfl h,h1,h2,h3,h4⟩
     | exit j=>
       obtain rfl:ds = []:=Classical.byContradiction fun hn=>by cases (h0 hn).1
       simp only [AExit.toExit,Exit.inBlock]
       simp only [Chain,BlockQ] at h1
       split
       ·rename_i hj
        rw [if_pos hj] at h1
        exact ⟨.normal,a',σ',[],rfl,fun h=>absurd rfl h,h1,h2,h3,h4⟩
       ·rename_i hj
        rw [if_neg hj] at h1
        exact ⟨.exit j,a',σ',[],rfl,fun h=>absurd rfl h,h1,h2,h3,h4⟩
     | ret=>exact ⟨.ret,a',σ',ds,rfl,fun hn=>⟨rfl,(h0 hn).2⟩,h1,h2,h3,h4⟩
 | .loop x,ac,hc,D,Q,a,σ,act,w,h,hs,hf,σ0,w0,hl=>by
   simp only [compC] at hc
   cases hx:compC P n x with
   | none=>rw [hx] at hc;cases hc
   | some x'=>
     rw [hx] at hc
     simp only [Option.map_some,Option.some.injEq] at hc
     subst hc
     obtain ⟨I,⟨k0,a1,σ1,hd,hI⟩,hround⟩:=h
     classical
     let J:Nat->Act->World->Prop:=fun k act w=>∃ a σ,I k a σ/\Le σ0 w0 σ w/\Sim σ w/\FRel n D σ w a act
     let μ:Act->World->Nat:=fun act w=>if h:∃ k,J k act w then least h else 0
     refine wp_loop (fun act w=>∃ k,J k act w) μ ⟨k0,a1,σ1,hI,hl.trans (hd.roles.le w),hd.roles.sim hs,hd.fr hs hf⟩ ?_
     intro act1 w1 hJ
     have hμ:μ act1 w1=least hJ:=by simp only [μ];rw [dif_pos hJ]
     obtain ⟨a2,σ2,h1,h2,h3,h4⟩:=least_spec hJ
     refine wp_mono (compC_sound x x' hx D _ a2 σ2 act1 w1 (hround _ a2 σ2 h1) h3 h4 σ0 w0 h2) ?_
     rintro e act' w' ⟨ex,a',σ',ds,rfl,h0,h5,h6,h7,h8⟩
     cases ex with
     | normal=>
       obtain rfl:ds = []:=Classical.byContradiction fun hn=>by cases (h0 hn).1
       obtain ⟨m,hm,a3,σ3,hd3,hI3⟩:=h5
       have hJ':J m act' w':=⟨a3,σ3,hI3,h6.trans (hd3.roles.le w'),hd3.roles.sim h7,hd3.fr h7 h8⟩
       refine ⟨⟨m,hJ'⟩,?_⟩
       have hex:∃ k,J k act' w':=⟨m,hJ'⟩
       have hμ':μ act' w'=least hex:=by simp only [μ];rw [dif_pos hex]
       rw [hμ,hμ']
       exact Nat.lt_of_le_of_lt (least_min hex hJ') hm
     | exit id=>
       obtain rfl:ds = []:=Classical.byContradiction fun hn=>by cases (h0 hn).1
       exact ⟨.exit id,a',σ',[],rfl,fun h=>absurd rfl h,h5,h6,h7,h8⟩
     | ret=>exact ⟨.ret,a',σ',ds,rfl,fun hn=>⟨rfl,(h0 hn).2⟩,h5,h6,h7,h8⟩
end
end Go.A
namespace Go.A
inductive RV where
 | t (t:Nat)
 | c (t:Nat) (n:Option Nat)
 deriving Inhabited
def RV.ev (a:AFr) (σ:ASt):RV->Option AV
 | .t s=>some (a s)
 | .c s n=>match a s with
   | .ptr b o=>match known σ b with
     | some cs=>fieldVal o n cs
     | none=>none
   | .imm cs=>fieldVal 0 n cs
   | _=>none
def RV.evs (a:AFr) (σ:ASt):List RV->Option (List AV)
 | []=>some []
 | r::rs=>match r.ev a σ,RV.evs a σ rs with
   | some v,some vs=>some (v::vs)
   | _,_=>none
def resV:List AV->AV
 | [x]=>x
 | xs => .tuple xs
def compRV (P:Program) (n:Nat):List ResultVar->Option (List RV)
 | []=>some []
 | .tmp t::rs=>match compRV P n rs with
   | some rs=>if t<n then some (.t t::rs) else none
   | none=>none
 | .cell t T::rs=>match compRV P n rs,aggOf P T with
   | some rs,some k=>if t<n then some (.c t k::rs) else none
   | _,_=>none
structure AFn where
 n:Nat
 rs:List RV
 body:ACode
 deriving Inhabited
def compF (P:Program) (fn:Func):Option AFn:=
 match fn.body with
 | some c=>match compC P fn.ntmps c,compRV P fn.ntmps fn.results.toList with
   | some ac,some rs=>some { n:=fn.ntmps,rs:=rs,body:=ac }
   | _,_=>none
 | none=>none
def init (args:List AV):AFr:=fun t=>args.getD t .any
def RetQ (rs:List RV) (R:AV->ASt->Prop):APost:=fun e a σ=>match e with
 | .exit _=>False
 | _=>∃ vs,RV.evs a σ rs=some vs/\∃ r σ',SDrop σ σ'/\Fz σ σ' (resV vs) r/\R r σ'
section
variable {P:Program} {n:Nat} {D:List Deferred} {σ:ASt} {w:World}
theorem Reps.getD:∀ {as:List AV} {vs:List Value},Reps σ w as vs->∀ (t:Nat),Rep σ w (as.getD t .any) (vs.getD t undef)
 | _,_,.nil,t=>by simpa using .any _
 | _,_,.cons h1 h2,0=>by simpa using h1
 | _,_,.cons h1 h2,t+1=>by simpa using h2.getD t
theorem run_results {act:Act} {a:AFr} (hf:FRel n D σ w a act) (hs:Sim σ w):∀ {rvs:List ResultVar} {rs:List RV} {vs:List AV},compRV P n rvs=some rs->RV.evs a σ rs=some vs →
  ∃ us,(rvs.mapM (fun | .tmp t=>pure (act.tmps.getD t undef) | .cell x t=>do loadVar t (← asAddr (act.tmps.getD x undef)):ResultVar->Sem Value)).run P w = .ok us w/\Reps σ w vs us
 | [],rs,vs,hc,hv=>by
   injection hc with hc;subst hc
   injection hv with hv;subst hv
   exact ⟨[],by simp,.nil⟩
 | .tmp t::rvs,rs,vs,hc,hv=>by
   simp only [compRV] at hc
   split at hc
   ·rename_i rs' hrs
    split at hc
    ·rename_i ht
     injection hc with hc;subst hc
     simp only [RV.evs,RV.ev] at hv
     split at hv
     ·rename_i v vs' h1 h2
      injection hv with hv;subst hv
      injection h1 with h1;subst h1
      obtain ⟨us,h3,h4⟩:=run_results hf hs hrs h2
      exact ⟨_::us,by rw [List.mapM_cons];simp only [Sem.run_bind,Sem.run_pure,Result.andThen,h3],.cons (hf.rep t ht) h4⟩
     ·cases hv
    ·cases hc
   ·cases hc
 | .cell x T::rvs,rs,vs,hc,hv=>by
   simp only [compRV] at hc
   split at hc
   ·rename_i rs' k hrs hk
    split at hc
    ·rename_i ht
     injection hc with hc;subst hc
     simp only [RV.evs] at hv
     split at hv
     ·rename_i v vs' h1 h2
      injection hv with hv;subst hv
      obtain ⟨us,h3,h4⟩:=run_results hf hs hrs h2
      have hr:=hf.rep x ht
      have:∃ u,(do loadVar T (← asAddr (act.tmps.getD x undef)):Sem Value).run P w = .ok u w/\Rep σ w v u:=by
       simp only [RV.ev] at h1
       split at h1
       ·rename_i b o hp
        rw [hp] at hr
        split at h1
        ·rename_i cs hkn
         obtain ⟨ws,h5,h6⟩:=hs.known hkn
         have hv':fieldVal 0 k (cs.drop o)=some v:=by
          cases k with
          | none=>simpa [fieldVal] using h1
          | some m=>
            simp only [fieldVal] at h1 ⊢
            split at h1
            ·rename_i hle
             rw [if_pos (by simp;omega)]
             simpa using h1
            ·cases h1
         obtain ⟨u,h7,h8⟩:=run_loadVar (P:=P) (b:=b) (o:=o) hk (h5.drop o) (fun j v hj=>h6 (o+j) v (by simpa using hj)) hv'
         generalize act.tmps.getD x undef=y at hr
         cases hr
         exact ⟨u,by rw [Sem.run_bind];exact h7,h8⟩
        ·cases h1
       ·rename_i cs hp
        rw [hp] at hr
        generalize act.tmps.getD x undef=y at hr
        cases hr with
        | imm hA=>
          obtain ⟨ws,h5,h6⟩:=hA.vals
          obtain ⟨u,h7,h8⟩:=run_loadVar (P:=P) hk h5 h6 h1
          exact ⟨u,by rw [Sem.run_bind];exact h7,h8⟩
       ·cases h1
      obtain ⟨u,h5,h6⟩:=this
      exact ⟨u::us,by rw [List.mapM_cons,Sem.run_bind,h5];simp only [Sem.run_bind,Sem.run_pure,Result.andThen,h3],.cons h6 h4⟩
     ·cases hv
    ·cases hc
   ·cases hc
theorem acalls_of {f:FuncId} {fn:Func} {af:AFn} (hf:P.funcs[f]? = some fn) (hc:compF P fn=some af) {args:List AV} {R:AV->ASt->Prop} (hl:args.length<=af.n) (h:af.body.wp P (RetQ af.rs R) (init args) σ):ACalls P f args σ R:=by
 intro w vs hs hr
 unfold compF at hc
 split at hc
 ·rename_i c hb
  split at hc
  ·rename_i ac rs hac hrs
   injection hc with hc;subst hc
   simp only at hl h
   refine calls_of_wp_defers hf hb ?_
   have hvl:vs.length<=fn.ntmps:=by rw [<-hr.length];exact hl
   have hfr:FRel fn.ntmps [] σ w (init args) { tmps:=(⟨vs⟩:Array Value)++Array.replicate (fn.ntmps-(⟨vs⟩:Array Value).size) undef,defers := [] }:=by
    refine ⟨by simp;omega,rfl,fun t ht=>?_⟩
    have h1:=hr.getD t
    have h2:((⟨vs⟩:Array Value)++Array.replicate (fn.ntmps-(⟨vs⟩:Array Value).size) undef).getD t undef=vs.getD t undef:=by
     rw [Array.getD_eq_getD_getElem?,List.getD_eq_getElem?_getD,Array.getElem?_append]
     split
     ·simp
     ·rename_i hge
      rw [List.getElem?_eq_none (by simpa using hge)]
      simp only [Array.getElem?_replicate]
      split<;>rfl
    rw [h2]
    exact h1
   refine wp_mono (compC_sound c ac hac [] _ _ σ _ w h hs hfr σ w (Le.refl _ _)) ?_
   rintro e act' w' ⟨ex,a',σ',ds,rfl,h0,h1,h2,h3,h4⟩
   have fin:∀ (ex:AExit),(∀ i,ex ≠ .exit i)->∀ (ds:List Deferred) (σ':ASt) (w':World),Chain P ds σ' w' (fun σ''=>RetQ rs R ex a' σ'')->Le σ w σ' w'->Sim σ' w'->(∀ t,t<fn.ntmps->Rep σ' w' (a' t) (act'.tmps.getD t undef)) →
     Leaves P fn act'.tmps (fun e w'=>∃ u r σ'',e = .returned u/\R r σ''/\Le σ w σ'' w'/\Sim σ'' w'/\Rep σ'' w' r u) ds .returning w':=by
    intro ex hex ds
    induction ds with
    | nil=>
      intro σ' w' h1 h2 h3 h5
      have h4:FRel fn.ntmps act'.defers σ' w' a' act':=⟨h4.size,rfl,h5⟩
      obtain ⟨xs,hx,r,σ'',hd,hz,hR⟩:∃ vs,RV.evs a' σ' rs=some vs/\∃ r σ'',SDrop σ' σ''/\Fz σ' σ'' (resV vs) r/\R r σ'':=by
       cases ex with
       | normal=>exact h1
       | exit i=>exact absurd rfl (hex i)
       | ret=>exact h1
      obtain ⟨us,h5,h6⟩:=run_results h4 h3 hrs hx
      have hres:(results fn act'.tmps).run P w' = .ok (if h:us.toArray.size=1 then us.toArray[0] else .tuple us.toArray) w':=by
       unfold results
       rw [Array.mapM_eq_mapM_toList]
       rw [Sem.run_bind]
       simp only [Functor.map]
       rw [Sem.run_bind']
       exact congrArg (fun r:Result (List Value)=>(r.andThen fun a w'=>Sem.run P ((Sem.pure ∘ List.toArray) a) w').andThen fun a w'=>Sem.run P (pure (if h:a.size=1 then a[0] else Value.tuple a)) w') h5
      have hrep:Rep σ' w' (resV xs) (if h:us.toArray.size=1 then us.toArray[0] else .tuple us.toArray):=by
       cases h6 with
       | nil=>exact .tuple .nil
       | cons h7 h8=>
         cases h8 with
         | nil=>simpa [resV] using h7
         | cons h9 h10=>
           rw [dif_neg (by simp)]
           exact .tuple (.cons h7 (.cons h9 h10))
      exact ⟨_,hres,_,r,σ'',rfl,hR,h2.trans (hd.le w'),hd.sim h3,hz.rep hd h3 hrep⟩
    | cons d ds ih=>
      intro σ' w' h1 h2 h3 h5
      obtain ⟨g,v,u,rfl,hok,hr,hD⟩:=h1
      refine ⟨by simp,.func g, #[],g, #[u],rfl,?_,?_⟩
      ·show (callFunc g (#[u] ++ #[])).run P w'=_
       rw [run_callFunc hok]
       rfl
      ·refine (hD w' [u] h3 (.cons hr .nil)).mono ?_
       rintro e u' w'' ⟨rfl,u1,r,σ'',rfl,hk,hl',hs',_⟩
       exact ih σ'' w'' (hk w'' hl' hs') (h2.trans hl') hs' fun t ht=>(h5 t ht).mono hl'
   have hdf:act'.defers=ds:=by rw [h4.defers,List.append_nil]
   cases ex with
   | normal=>
     show Leaves P fn act'.tmps _ act'.defers .returning w'
     rw [hdf]
     exact fin .normal (fun i h=>by cases h) ds σ' w' h1 h2 h3 h4.rep
   | exit id=>
     obtain rfl:ds = []:=Classical.byContradiction fun hn=>by cases (h0 hn).1
     exact h1.elim
   | ret=>
     show Leaves P fn act'.tmps _ act'.defers .returning w'
     rw [hdf]
     exact fin .ret (fun i h=>by cases h) ds σ' w' h1 h2 h3 h4.rep
  ·cases hc
 ·cases hc
theorem adefer_of {f:FuncId} {fn:Func} {af:AFn} (hf:P.funcs[f]? = some fn) (hc:compF P fn=some af) (hnd:af.body.nd=true) (hrs0:af.rs = []) {args:List AV} {R:AV->ASt->Prop} (hl:args.length<=af.n)
  (h:af.body.wp P (fun e _ σ'=>(∀ i,e ≠ .exit i)/\R (.tuple []) σ') (init args) σ):ADefer P f args σ R:=by
 intro w vs hs hr
 unfold compF at hc
 split at hc
 ·rename_i c hb
  split at hc
  ·rename_i ac rs hac hrs
   injection hc with hc;subst hc
   simp only at hl h hnd hrs0
   subst hrs0
   refine (callsD_of_wp (u := .returning) (R:=fun e w'=>∃ u r σ',e = .returned u/\R r σ'/\Le σ w σ' w'/\Sim σ' w'/\Rep σ' w' r u) hf hb ?_).mono fun e u' w' ⟨h1,h2⟩=>⟨h1,h2⟩
   have hvl:vs.length<=fn.ntmps:=by rw [<-hr.length];exact hl
   have hfr:FRel fn.ntmps [] σ w (init args) { tmps:=(⟨vs⟩:Array Value)++Array.replicate (fn.ntmps-(⟨vs⟩:Array Value).size) undef,defers := [] }:=by
    refine ⟨by simp;omega,rfl,fun t ht=>?_⟩
    have h1:=hr.getD t
    have h2:((⟨vs⟩:Array Value)++Array.replicate (fn.ntmps-(⟨vs⟩:Array Value).size) undef).getD t undef=vs.getD t undef:=by
     rw [Array.getD_eq_getD_getElem?,List.getD_eq_getElem?_getD,Array.getElem?_append]
     split
     ·simp
     ·rename_i hge
      rw [List.getElem?_eq_none (by simpa using hge)]
      simp only [Array.getElem?_replicate]
      split<;>rfl
    rw [h2]
    exact h1
   refine wp_mono (compC_sound c ac hac [] _ _ σ _ w h hs hfr σ w (Le.refl _ _)) ?_
   rintro e act w' ⟨ex,a',σ',ds,rfl,h0,h1,h2,h3,h4⟩
   obtain rfl:ds = []:=Classical.byContradiction fun hn=>by rw [hnd] at h0;cases (h0 hn).2
   obtain ⟨hex,hk⟩:=h1
   obtain ⟨us,h5,h6⟩:=run_results h4 h3 hrs (show RV.evs a' σ' []=some [] from rfl)
   cases h6
   have hres:(results fn act.tmps).run P w' = .ok (.tuple #[]) w':=by
    unfold results
    rw [Array.mapM_eq_mapM_toList]
    rw [Sem.run_bind]
    simp only [Functor.map]
    rw [Sem.run_bind']
    exact congrArg (fun r:Result (List Value)=>(r.andThen fun a w'=>Sem.run P ((Sem.pure ∘ List.toArray) a) w').andThen fun a w'=>Sem.run P (pure (if h:a.size=1 then a[0] else Value.tuple a)) w') h5
   have hfin:act.defers = []/\∃ v,(results fn act.tmps).run P w' = .ok v w'/\∃ u r σ'',Ending.returned v = .returned u/\R r σ''/\Le σ w σ'' w'/\Sim σ'' w'/\Rep σ'' w' r u:=⟨h4.defers,_,hres,_,_,σ',rfl,hk,h2,h3,.tuple .nil⟩
   cases ex with
   | normal=>exact hfin
   | ret=>exact hfin
   | exit j=>exact absurd rfl (hex j)
  ·cases hc
 ·cases hc
end
theorem wp_of {c d:ACode} (h:c=d) (P:Program) (Q:APost) (a:AFr) (σ:ASt):ACode.wp P c Q a σ=ACode.wp P d Q a σ:=by rw [h]
end Go.A
