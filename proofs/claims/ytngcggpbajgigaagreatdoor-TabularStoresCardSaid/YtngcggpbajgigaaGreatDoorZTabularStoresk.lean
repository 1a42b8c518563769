/- Part 11 of what TabularStores leans on: Stb CodeTpa Tpa Tpb CodeTpe Tpe Tpc Tpd CodeTpf Tpf Tpg Hd Hf CodeKl Kl CodeStc Stc Std Ste Stf Stg Sth Sti Stj Za. -/
import Derived.Test.YtngcggpbajgigaaGreatDoorProg
import Derived.KernelRfl
import Derived.Shelf.SlIterI.Nil
import Derived.Shelf.SortM.Plain
import Derived.Shelf.SortM.SortNone
import Derived.Ground.GgzProg
import Derived.Ground.SlgmProg
import Derived.RangeFuncBox
import Derived.RangeFuncLeaves
import Derived.RangeFuncKeeps
import Derived.RangeFuncBound
import Derived.Shelf.Abstract
import Derived.WalkKit
import Derived.OwnWalkIn
import Derived.TacticsInMore
import Derived.LoopNIn
import Derived.LoopIn
import Derived.Lib.MapLaws
import Derived.Lib.RuneCount
import Derived.Test.YtngcggpbajgigaaGreatDoorZTabularStoresj
set_option linter.defProp false
set_option linter.unusedSimpArgs false
set_option linter.unusedVariables false
set_option maxRecDepth 100000
namespace Go.A
open Go.Proofs
theorem take_drop_del {α:Type} (l:List α) {i:Nat} (hi:i<l.length) (j:Nat):(l.take i++l.drop (i+1))[j]? = if j<i then l[j]? else l[j+1]? := by
 have htl:(l.take i).length=i:=by rw [List.length_take];omega
 split
 ·rename_i h
  rw [List.getElem?_append_left (by omega),List.getElem?_take,if_pos h]
 ·rename_i h
  rw [List.getElem?_append_right (by omega),htl,List.getElem?_drop]
  congr 1
  omega
theorem take_drop_ins {α:Type} (l:List α) {i:Nat} (hi:i<=l.length) (v:α) (j:Nat):(l.take i++v::l.drop i)[j]? = if j<i then l[j]? else if j=i then some v else l[j-1]? := by
 have htl:(l.take i).length=i:=by rw [List.length_take];omega
 split
 ·rename_i h
  rw [List.getElem?_append_left (by omega),List.getElem?_take,if_pos h]
 ·rename_i h
  rw [List.getElem?_append_right (by omega),htl]
  split
  ·rename_i h2
   rw [h2,Nat.sub_self];rfl
  ·rename_i h2
   obtain ⟨d,hd⟩:∃ d,j-i=d+1:=⟨j-i-1,by omega⟩
   rw [hd,List.getElem?_cons_succ,List.getElem?_drop]
   congr 1
   omega
section
variable {pg pg1 pg':Pgs} {hr tr sr st:Nat} {K:List Nat} {X:List (List UInt8)} {T T1:Nat->Prop} {H:Nat->Option (List UInt8)} {M:Nat->Option Nat}
theorem HpAt.frame (h:HpAt pg hr T H) (he:∀ q,T q->pg' q=pg q):HpAt pg' hr T H:=by
 obtain ⟨s,cur,recs,h1,h2,h3,h4,h5,h6,h7⟩:=h
 refine ⟨s,cur,recs,(he _ ((h3 _).2 (.inl rfl))).trans h1,h2,h3,h4,h5,fun q R hR=>?_,h7⟩
 obtain ⟨g1,g2,b,g3,g4⟩:=h6 q R hR
 exact ⟨g1,g2,b,(he _ ((h3 _).2 (.inr (by rw [hR];simp)))).trans g3,g4⟩
structure StQ (pg:Pgs) (hr tr sr st:Nat) (K:List Nat) (X:List (List UInt8)) (T:Nat->Prop) (H:Nat->Option (List UInt8)) (M:Nat->Option Nat):Prop where
 hp:HpAt pg hr T H
 lf:LfT pg tr M K.length
 sq:SqL pg sr st K
 off:¬ T tr/\¬ T sr/\¬ T st
 ne:tr≠sr/\tr≠st
 mem:∀ k,M k≠none↔k∈K
 pt:∀ (i k:Nat),K[i]? = some k->∃ id x,M k=some id/\X[i]? = some x/\H id=some (0::x)
 inj:∀ k k' id,M k=some id->M k'=some id->k=k'
 len:X.length=K.length
def StP (pg:Pgs) (hr tr sr st:Nat) (K:List Nat) (X:List (List UInt8)):Prop:=∃ T H M,StQ pg hr tr sr st K X T H M
theorem LfT.some {c:Nat} (h:LfT pg tr M c):pg tr≠none:=by
 obtain ⟨b,ks,vs,h1,_⟩:=h
 rw [h1];simp
theorem SqL.some (h:SqL pg sr st K):pg sr≠none/\pg st≠none:=by
 obtain ⟨b,q1,_⟩:=h.lf
 obtain ⟨M,q2,_⟩:=h.tr
 exact ⟨by rw [q1];simp,q2.some⟩
theorem StQ.heap (h:StQ pg hr tr sr st K X T H M) (hF:Fr T pg T1 pg1):LfT pg1 tr M K.length/\SqL pg1 sr st K/\¬ T1 tr/\¬ T1 sr/\¬ T1 st:=by
 obtain ⟨x1,x2⟩:=hF tr h.off.1 h.lf.some
 obtain ⟨y1,y2⟩:=hF sr h.off.2.1 h.sq.some.1
 obtain ⟨z1,z2⟩:=hF st h.off.2.2 h.sq.some.2
 exact ⟨h.lf.frame x2,h.sq.frame y2 z2,x1,y1,z1⟩
theorem StQ.row {b:List UInt8} (h:StQ pg hr tr sr st K X T H M) (hs:SqL pg1 sr st K):SqL (pset pg1 tr (some b)) sr st K:=
 hs.frame (pset_ne (Ne.symm h.ne.1)) (pset_ne (Ne.symm h.ne.2))
theorem pset3 {b b1 b2:Option (List UInt8)} (q:Nat) (h1:q≠tr) (h2:q≠sr) (h3:q≠st):pset (pset (pset pg tr b) st b1) sr b2 q=pg q:=by
 rw [pset_ne h2,pset_ne h3,pset_ne h1]
theorem StQ.dropped {i key id:Nat} {b b1 b2:List UInt8} (h:StQ pg hr tr sr st K X T H M) (hx:K[i]? = some key) (hid:M key=some id) (hH:HpAt pg1 hr T1 (upH H id none)) (ho:¬ T1 tr/\¬ T1 sr/\¬ T1 st)
  (ht:LfT (pset pg1 tr (some b)) tr (upM M key none) (K.length-1)) (hs:SqL (pset (pset (pset pg1 tr (some b)) st (some b1)) sr (some b2)) sr st (delL K i)):StP (pset (pset (pset pg1 tr (some b)) st (some b1)) sr (some b2)) hr tr sr st (delL K i) (X.take i++X.drop (i+1)):=by
 have hil:=(List.getElem?_eq_some_iff.1 hx).1
 have hxl:i<X.length:=by rw [h.len];exact hil
 have hne:∀ q,T1 q->q≠tr/\q≠sr/\q≠st:=fun q hq=>⟨fun e=>ho.1 (e▸hq),fun e=>ho.2.1 (e▸hq),fun e=>ho.2.2 (e▸hq)⟩
 refine ⟨T1,upH H id none,upM M key none,hH.frame fun q hq=>pset3 q (hne q hq).1 (hne q hq).2.1 (hne q hq).2.2,?_,hs,ho,h.ne,fun k=>?_,fun j k hj=>?_,fun k k' id' h1 h2=>?_,?_⟩
 ·rw [delL_len hil]
  exact ht.frame (by rw [pset_ne h.ne.1,pset_ne h.ne.2])
 ·rw [del_mem h.sq.nd hx]
  unfold upM
  by_cases hk:k=key
  ·rw [if_pos hk];exact ⟨fun h=>absurd rfl h,fun h=>absurd hk h.2⟩
  ·rw [if_neg hk,h.mem k];exact ⟨fun h=>⟨h,hk⟩,fun h=>h.1⟩
 ·have hkm:=(del_mem h.sq.nd hx).1 (List.mem_of_getElem? hj)
  unfold delL at hj
  rw [take_drop_del K hil] at hj
  rw [take_drop_del X hxl]
  have key':∀ j',K[j']? = some k->∃ id' x,upM M key none k=some id'/\X[j']? = some x/\upH H id none id'=some (0::x):=fun j' hj'=>by
   obtain ⟨id',x,g1,g2,g3⟩:=h.pt j' k hj'
   refine ⟨id',x,?_,g2,?_⟩
   ·unfold upM;rw [if_neg hkm.2];exact g1
   ·unfold upH
    rw [if_neg]
    ·exact g3
    ·intro e
     rw [e] at g1
     exact hkm.2 (h.inj _ _ _ g1 hid)
  split
  ·rename_i hlt;rw [if_pos hlt] at hj;exact key' _ hj
  ·rename_i hlt;rw [if_neg hlt] at hj;exact key' _ hj
 ·unfold upM at h1 h2
  split at h1
  ·cases h1
  ·split at h2
   ·cases h2
   ·exact h.inj _ _ _ h1 h2
 ·rw [delL_len hil,List.length_append,List.length_take,List.length_drop,h.len];omega
theorem StQ.laid {i key id:Nat} {x b b1 b2:List UInt8} (h:StQ pg hr tr sr st K X T H M) (hi:i<=K.length) (hk:key ∉ K) (hid:H id=none) (hH:HpAt pg1 hr T1 (upH H id (some (0::x)))) (ho:¬ T1 tr/\¬ T1 sr/\¬ T1 st)
  (ht:LfT (pset pg1 tr (some b)) tr (upM M key (some id)) (K.length+1)) (hs:SqL (pset (pset (pset pg1 tr (some b)) st (some b1)) sr (some b2)) sr st (insL K i key)):StP (pset (pset (pset pg1 tr (some b)) st (some b1)) sr (some b2)) hr tr sr st (insL K i key) (X.take i++x::X.drop i):=by
 have hxl:i<=X.length:=by rw [h.len];exact hi
 have hne:∀ q,T1 q->q≠tr/\q≠sr/\q≠st:=fun q hq=>⟨fun e=>ho.1 (e▸hq),fun e=>ho.2.1 (e▸hq),fun e=>ho.2.2 (e▸hq)⟩
 have hno:∀ k,M k≠some id:=fun k e=>by
  have hm:k∈K:=(h.mem k).1 (by rw [e];simp)
  obtain ⟨j,hj⟩:=List.getElem?_of_mem hm
  obtain ⟨id',x',g1,g2,g3⟩:=h.pt j k hj
  rw [e] at g1
  injection g1 with g1
  rw [<-g1,hid] at g3
  cases g3
 refine ⟨T1,upH H id (some (0::x)),upM M key (some id),hH.frame fun q hq=>pset3 q (hne q hq).1 (hne q hq).2.1 (hne q hq).2.2,?_,hs,ho,h.ne,fun k=>?_,fun j k hj=>?_,fun k k' id' h1 h2=>?_,?_⟩
 ·rw [insL_len hi]
  exact ht.frame (by rw [pset_ne h.ne.1,pset_ne h.ne.2])
 ·unfold upM insL
  by_cases hkk:k=key
  ·rw [if_pos hkk,hkk];simp
  ·rw [if_neg hkk,h.mem k]
   constructor
   ·intro hm
    rw [<-List.take_append_drop i K] at hm
    rcases List.mem_append.1 hm with hm|hm
    ·exact List.mem_append_left _ hm
    ·exact List.mem_append_right _ (List.mem_cons_of_mem _ hm)
   ·intro hm
    rw [<-List.take_append_drop i K]
    rcases List.mem_append.1 hm with hm|hm
    ·exact List.mem_append_left _ hm
    ·exact List.mem_append_right _ ((List.mem_cons.1 hm).resolve_left hkk)
 ·unfold insL at hj
  rw [take_drop_ins K hi] at hj
  rw [take_drop_ins X hxl]
  have key':∀ j',K[j']? = some k->∃ id' x',upM M key (some id) k=some id'/\X[j']? = some x'/\upH H id (some (0::x)) id'=some (0::x'):=fun j' hj'=>by
   obtain ⟨id',x',g1,g2,g3⟩:=h.pt j' k hj'
   have hkk:k≠key:=fun e=>hk (e▸List.mem_of_getElem? hj')
   refine ⟨id',x',?_,g2,?_⟩
   ·unfold upM;rw [if_neg hkk];exact g1
   ·unfold upH
    rw [if_neg]
    ·exact g3
    ·intro e;rw [e] at g1;exact hno _ g1
  split
  ·rename_i hlt;rw [if_pos hlt] at hj;exact key' _ hj
  ·rename_i hlt
   rw [if_neg hlt] at hj
   split
   ·rename_i he
    rw [if_pos he] at hj
    injection hj with hj
    subst hj
    exact ⟨id,x,if_pos rfl,rfl,if_pos rfl⟩
   ·rename_i he
    rw [if_neg he] at hj
    exact key' _ hj
 ·unfold upM at h1 h2
  split at h1
  ·rename_i e1
   split at h2
   ·rename_i e2;rw [e1,e2]
   ·injection h1 with h1
    rw [<-h1] at h2
    exact absurd h2 (hno _)
  ·split at h2
   ·injection h2 with h2
    rw [<-h2] at h1
    exact absurd h1 (hno _)
   ·exact h.inj _ _ _ h1 h2
 ·rw [insL_len hi,List.length_append,List.length_cons,List.length_take,List.length_drop,h.len];omega
end
end Go.A
namespace Go.A
open Go.Proofs
/-! 10: (*tabular/pool.Pool).Begin -/
def c10_11:ACode := .seq (.ops [ oq 2 (.mv (.v (.int .i64 0)))]) (.seq (.seq (.ops [ oq 3 (.mv (.t 0)),oq 4 (.nc (.t 3)),oq 5 (.fa 5 (.t 4)),oq 6 (.ld none (.t 5))]) (.cond (.t 6) (.seq (.ops [ oq 2 (.mv (.v (.int .i64 14)))]) .ret) .skip)) (.seq (.ops [ oq 7 (.mv (.t 0)),oq 8 (.mv (.t 0)),oq 9 (.mv (.t 0)),oq 10 (.mv (.t 0)),oe 11 (.mkms),oq 12 (.nc (.t 7)),oq 13 (.fa 5 (.t 12)),oz (.store 1 (.t 13) (.v (.bool true))),oq 14 (.nc (.t 8)),oq 15 (.fa 6 (.t 14)),oz (.store 1 (.t 15) (.t 11)),oq 16 (.nc (.t 9)),oq 17 (.fa 7 (.t 16)),oz (.store 1 (.t 17) (.v (.sl .full []))),oq 18 (.nc (.t 10)),oq 19 (.fa 8 (.t 18)),oz (.store 1 (.t 19) (.v (.sl .full [])))]) (.seq (.ops [ oq 2 (.mv (.v (.int .i64 0)))]) .ret)))
@[go_sem] def c10_11_wp:=wp_of c10_11.eq_1
def c10:AFn:=⟨20,[.t 2],c10_11⟩
theorem c10_ok:compF Tryz.prog Tryz.f10=some c10:=by kernel_rfl
theorem a10 {args:List AV} {σ:ASt} {R:AV->ASt->Prop} (hl:args.length<=20) (h:c10_11.wp Tryz.prog (RetQ [.t 2] R) (init args) σ):ACalls Tryz.prog 10 args σ R:=acalls_of Tryz.func10 c10_ok hl h
/-! 22: (*tabular/pool.Pool).Pinned -/
def c22_3:ACode := .seq (.ops [ oq 2 (.mv (.v (.int .i64 0)))]) (.seq (.ops [ oq 3 (.mv (.t 0)),oq 4 (.nc (.t 3)),oq 5 (.fa 4 (.t 4)),oq 6 (.ld none (.t 5)),oq 2 (.mv (.t 6))]) .ret)
@[go_sem] def c22_3_wp:=wp_of c22_3.eq_1
def c22:AFn:=⟨7,[.t 2],c22_3⟩
theorem c22_ok:compF Tryz.prog Tryz.f22=some c22:=by kernel_rfl
theorem a22 {args:List AV} {σ:ASt} {R:AV->ASt->Prop} (hl:args.length<=7) (h:c22_3.wp Tryz.prog (RetQ [.t 2] R) (init args) σ):ACalls Tryz.prog 22 args σ R:=acalls_of Tryz.func22 c22_ok hl h
/-! 69: (*tabular/pool.Pool).end -/
def c69_0:ACode := .ops [ oq 2 (.mv (.t 0)),oq 3 (.mv (.t 0)),oq 4 (.mv (.t 0)),oq 5 (.mv (.t 0)),oq 6 (.nc (.t 2)),oq 7 (.fa 5 (.t 6)),oz (.store 1 (.t 7) (.v (.bool false))),oq 8 (.nc (.t 3)),oq 9 (.fa 6 (.t 8)),oz (.store 1 (.t 9) (.v (.map none))),oq 10 (.nc (.t 4)),oq 11 (.fa 7 (.t 10)),oz (.store 1 (.t 11) (.v (.sl .full []))),oq 12 (.nc (.t 5)),oq 13 (.fa 8 (.t 12)),oz (.store 1 (.t 13) (.v (.sl .full [])))]
@[go_sem] def c69_0_wp:=wp_of c69_0.eq_1
def c69:AFn:=⟨14,[],c69_0⟩
theorem c69_ok:compF Tryz.prog Tryz.f69=some c69:=by kernel_rfl
theorem a69 {args:List AV} {σ:ASt} {R:AV->ASt->Prop} (hl:args.length<=14) (h:c69_0.wp Tryz.prog (RetQ [] R) (init args) σ):ACalls Tryz.prog 69 args σ R:=acalls_of Tryz.func69 c69_ok hl h
end Go.A
section
attribute [local go_sem] reduceCtorEq Nat.reduceEqDiff Nat.reduceAdd Nat.reduceSub Nat.reduceMul Nat.reduceLeDiff Int.reduceLT Int.reduceLE Int.reduceEq Int.reduceNeg Int.reduceAdd Int.reduceSub Int.reduceMul true_imp_iff forall_const Nat.mul_one Int.reduceToNat Nat.reducePow Int.reducePow Bool.true_and Bool.false_and Bool.and_false
attribute [local go_sem ↓] reduceIte
namespace Go.A
open Go.Proofs
section
variable {base σ:ASt} {p n:Nat} {most:Int} {m:PX} {pg old:Pgs}
theorem plpinned_ok (h:PoolAt base σ p m n pg):ACalls Tryz.prog 22 [.ptr p 0] σ fun v σ'=>v = .int .i64 0/\σ'=σ:=by
 obtain ⟨base1,d,ra,ma,own,hand,fs,am,g,tx,ph,h1,hw,hh,hk,htx⟩:=h.open
 have hp:=h1.hp
 refine a22 (by simp) ?_
 simp (disch:=first|assumption|omega|(simp only [List.length_append,List.length_cons,List.length_nil];omega)) only [go_sem,hp]
 exact retC_by (.refl _) (.refl _) ⟨rfl,rfl⟩
theorem plbegin_ok (h:PoolAt base σ p ⟨most,none⟩ n pg):ACalls Tryz.prog 10 [.ptr p 0] σ fun v σ'=>v = .int .i64 0/\PoolAt base σ' p ⟨most,some pg⟩ n pg:=by
 have hcb:=h.ck
 obtain ⟨base1,d,ra,ma,own,hand,fs,am,g,tx,ph,h1,hw,hh,hk,htx⟩:=h.open
 obtain ⟨hext,rfl,hpp⟩:=htx
 have hp:=h1.hp
 dsimp only at hp
 refine a10 (by simp) ?_
 simp (disch:=first|assumption|omega|(simp only [List.length_append,List.length_cons,List.length_nil];omega)) only [go_sem,hp]
 refine mkmsC_by fun wb hwb=>?_
 have hb1:base1 wb=none:=own_none (σ:=σ) (fun x r hx=>h1.hb hx) wb hwb
 have hbk:wb≠0:=fun e=>by
  have:=h1.hb h1.ckT
  rw [<-e,hwb] at this
  cases this
 have h2:=h1.put (x:=wb) (.maps []) (.inr hwb) hbk
 have h3:=h2.setP hand 0 ⟨true,.map (some wb),.sl .full [],.sl .full []⟩
 have hp2:=h2.hp
 dsimp only at hp2
 have hfin:PoolAt base _ p ⟨most,some pg⟩ n pg:=PoolAt.shut h3 hw hh hk hcb ⟨fun y r hy=>by
  have hyw:y≠wb:=fun e=>by
   have:=hext y r hy
   rw [e,hb1] at this;cases this
  rw [ASt.set_ne hyw];exact hext y r hy,wb,[],[],[],.sl .full [],.sl .full [],rfl,⟨ASt.set_same _ _ _,own_none (σ:=base1) hext wb hb1,.inl ⟨rfl,rfl⟩,.inl ⟨rfl,rfl⟩,fun X hX=>by cases hX⟩,by rw [<-hpp];exact TxP.begun pg,fun q hq=>hq.elim⟩
 dsimp only at hfin
 generalize fs.length=FL at *
 obtain ⟨σ4,hσ4⟩:∃ s,s=σ.set wb (some (.maps [])):=⟨_,rfl⟩
 rw [<-hσ4] at hp2 hfin ⊢
 simp (disch:=first|assumption|omega|(simp only [List.length_append,List.length_cons,List.length_nil];omega)) only [go_sem,hp2]
 exact retC_by (.refl _) (.refl _) ⟨rfl,hfin⟩
theorem plend_ok (h:PoolAt base σ p ⟨most,some old⟩ n pg):∃ d ra ma FL hand wb mv gv wl md gn ph base1,σ p=some (.obj [.ptr d 0,.msl ra 0 FL FL,.map (some ma),.int .i64 ((hand:Nat):Int),.int .i64 0,.bool true,.map (some wb),mv,gv]) ∧
  TxO base base1 wb wl mv md gv gn/\TxP old ph pg wl md gn/\CkT base1/\(∀ x r,base1 x=some r->σ x=some r)/\wl.length<=60000/\md.length<=60000/\(∀ x r,base x=some r->base1 x=some r) ∧
  ACalls Tryz.prog 69 [.ptr p 0] σ fun v σ'=>v = .tuple []/\PoolAt base1 σ' p ⟨most,none⟩ n ph:=by
 obtain ⟨base1,d,ra,ma,own,hand,fs,am,g,tx,ph,h1,hw,hh,hk,htx⟩:=h.open
 obtain ⟨hext,wb,wl,md,gn,mv,gv,rfl,hO,hP,_⟩:=htx
 have hp:=h1.hp
 dsimp only at hp
 have hfew:=hP.few (h1.few hw)
 refine ⟨d,ra,ma,fs.length,hand,wb,mv,gv,wl,md,gn,ph,base1,hp,hO,hP,h1.ckT,fun x r hx=>h1.hb hx,hfew.1,hfew.2.1,hext,?_⟩
 have h3:=h1.setP hand 0 tx0
 have hfin:PoolAt base1 _ p ⟨most,none⟩ n ph:=PoolAt.shut (m:=⟨most,none⟩) h3 hw hh hk h1.ckT ⟨fun y r h=>h,rfl,rfl⟩
 dsimp only at hfin
 generalize fs.length=FL at *
 refine a69 (by simp) ?_
 simp (disch:=first|assumption|omega|(simp only [List.length_append,List.length_cons,List.length_nil];omega)) only [go_sem,hp]
 exact retC_by (.refl _) (.refl _) ⟨rfl,hfin⟩
end
end Go.A
end
namespace Go.Proofs
open Go.RowKit Go.Maps Go.Sort Go.Shelf
def Tryz.keysT_ren : Go.Shelf.Ren := ⟨fun | 7 => 71 | 10 => 138 | n => n, fun | 23 => 70 | 26 => 3 | 3 => 9 | 28 => 137 | 0 => 0 | 27 => 136 | 33 => 165 | 4 => 4 | n => n, fun | n => n⟩
theorem Tryz.keysT : Go.Proofs.SlLaysZI.n7 Tryz.prog Tryz.keysT_ren := {
  mixed := by kernel_rfl
  f7 := ⟨Tryz.f71.name, by decide, Tryz.func71.trans (congrArg some (by kernel_rfl))⟩
  f10 := ⟨Tryz.f138.name, by decide, Tryz.func138.trans (congrArg some (by kernel_rfl))⟩
  t0 := Tryz.underlying0
  a0 := Tryz.isAgg0
  z0 := Tryz.sizeOf0
  v0 := Tryz.zeroValue0
  t4 := Tryz.underlying4
  a4 := Tryz.isAgg4
  z4 := Tryz.sizeOf4
  v4 := Tryz.zeroValue4
  t23 := Tryz.underlying70
  a23 := Tryz.isAgg70
  z23 := Tryz.sizeOf70
  v23 := Tryz.zeroValue70
  t26 := Tryz.underlying3
  a26 := Tryz.isAgg3
  z26 := Tryz.sizeOf3
  v26 := Tryz.zeroValue3
  t27 := Tryz.underlying136
  a27 := Tryz.isAgg136
  z27 := Tryz.sizeOf136
  v27 := Tryz.zeroValue136
  t28 := Tryz.underlying137
  a28 := Tryz.isAgg137
  z28 := Tryz.sizeOf137
  v28 := Tryz.zeroValue137
  t33 := Tryz.underlying165
  a33 := Tryz.isAgg165
  z33 := Tryz.sizeOf165
  v33 := Tryz.zeroValue165 }
def Tryz.sortedT_ren : Go.Shelf.Ren := ⟨fun | 6 => 70 | 8 => 136 | 9 => 137 | 11 => 159 | 13 => 161 | 12 => 160 | 23 => 178 | 24 => 179 | 14 => 169 | 15 => 170 | 16 => 171 | 17 => 172 | 18 => 173 | 19 => 174 | 20 => 175 | 21 => 176 | 22 => 177 | 25 => 185 | 26 => 186 | 27 => 187 | 28 => 188 | 29 => 189 | 30 => 190 | 31 => 193 | n => n, fun | 26 => 3 | 28 => 137 | 24 => 71 | 0 => 0 | 3 => 3 | 37 => 109 | 48 => 96 | 50 => 41 | 4 => 4 | 40 => 212 | 39 => 211 | 45 => 101 | 5 => 5 | 9 => 9 | 51 => 221 | 55 => 144 | 57 => 228 | 58 => 168 | 33 => 165 | n => n, fun | n => n⟩
theorem Tryz.sortedT : Go.Proofs.SlLaysZI.n6 Tryz.prog Tryz.sortedT_ren := {
  mixed := by kernel_rfl
  f6 := ⟨Tryz.f70.name, by decide, Tryz.func70.trans (congrArg some (by kernel_rfl))⟩
  f8 := ⟨Tryz.f136.name, by decide, Tryz.func136.trans (congrArg some (by kernel_rfl))⟩
  f11 := ⟨Tryz.f159.name, by decide, Tryz.func159.trans (congrArg some (by kernel_rfl))⟩
  t0 := Tryz.underlying0
  a0 := Tryz.isAgg0
  z0 := Tryz.sizeOf0
  v0 := Tryz.zeroValue0
  t24 := Tryz.underlying71
  a24 := Tryz.isAgg71
  z24 := Tryz.sizeOf71
  v24 := Tryz.zeroValue71
  t26 := Tryz.underlying3
  a26 := Tryz.isAgg3
  z26 := Tryz.sizeOf3
  v26 := Tryz.zeroValue3
  t28 := Tryz.underlying137
  a28 := Tryz.isAgg137
  z28 := Tryz.sizeOf137
  v28 := Tryz.zeroValue137
  i26 := by kernel_rfl }
def Tryz.sortT_ren : Go.Shelf.Ren := ⟨fun | 5 => 137 | 8 => 161 | 7 => 160 | 19 => 178 | 20 => 179 | 10 => 169 | 11 => 170 | 12 => 171 | 13 => 172 | 14 => 173 | 15 => 174 | 16 => 175 | 17 => 176 | 18 => 177 | 30 => 185 | 31 => 186 | 32 => 187 | 33 => 188 | 34 => 189 | 35 => 190 | 40 => 193 | n => n, fun | 23 => 71 | 25 => 3 | 3 => 3 | 32 => 109 | 22 => 71 | 0 => 0 | 44 => 96 | 46 => 41 | 4 => 4 | 36 => 212 | 35 => 211 | 41 => 101 | 5 => 5 | 9 => 9 | 53 => 221 | 57 => 144 | 63 => 228 | 64 => 168 | n => n, fun | n => n⟩
theorem Tryz.sortT : Go.Proofs.SlLaysM.n5 Tryz.prog Tryz.sortT_ren := {
  mixed := by kernel_rfl
  f5 := ⟨Tryz.f137.name, by decide, Tryz.func137.trans (congrArg some (by kernel_rfl))⟩
  f7 := ⟨Tryz.f160.name, by decide, Tryz.func160.trans (congrArg some (by kernel_rfl))⟩
  f8 := Tryz.func161.trans (congrArg some (by kernel_rfl))
  f10 := ⟨Tryz.f169.name, by decide, Tryz.func169.trans (congrArg some (by kernel_rfl))⟩
  f11 := ⟨Tryz.f170.name, by decide, Tryz.func170.trans (congrArg some (by kernel_rfl))⟩
  f12 := ⟨Tryz.f171.name, by decide, Tryz.func171.trans (congrArg some (by kernel_rfl))⟩
  f13 := ⟨Tryz.f172.name, by decide, Tryz.func172.trans (congrArg some (by kernel_rfl))⟩
  f14 := ⟨Tryz.f173.name, by decide, Tryz.func173.trans (congrArg some (by kernel_rfl))⟩
  f15 := ⟨Tryz.f174.name, by decide, Tryz.func174.trans (congrArg some (by kernel_rfl))⟩
  f16 := ⟨Tryz.f175.name, by decide, Tryz.func175.trans (congrArg some (by kernel_rfl))⟩
  f17 := ⟨Tryz.f176.name, by decide, Tryz.func176.trans (congrArg some (by kernel_rfl))⟩
  f18 := ⟨Tryz.f177.name, by decide, Tryz.func177.trans (congrArg some (by kernel_rfl))⟩
  f19 := Tryz.func178.trans (congrArg some (by kernel_rfl))
  f20 := Tryz.func179.trans (congrArg some (by kernel_rfl))
  f30 := ⟨Tryz.f185.name, by decide, Tryz.func185.trans (congrArg some (by kernel_rfl))⟩
  f31 := Tryz.func186.trans (congrArg some (by kernel_rfl))
  f32 := Tryz.func187.trans (congrArg some (by kernel_rfl))
  f33 := ⟨Tryz.f188.name, by decide, Tryz.func188.trans (congrArg some (by kernel_rfl))⟩
  f34 := ⟨Tryz.f189.name, by decide, Tryz.func189.trans (congrArg some (by kernel_rfl))⟩
  f35 := ⟨Tryz.f190.name, by decide, Tryz.func190.trans (congrArg some (by kernel_rfl))⟩
  f40 := ⟨Tryz.f193.name, by decide, Tryz.func193.trans (congrArg some (by kernel_rfl))⟩
  t0 := Tryz.underlying0
  a0 := Tryz.isAgg0
  z0 := Tryz.sizeOf0
  v0 := Tryz.zeroValue0
  t3 := Tryz.underlying3
  a3 := Tryz.isAgg3
  z3 := Tryz.sizeOf3
  v3 := Tryz.zeroValue3
  t4 := Tryz.underlying4
  a4 := Tryz.isAgg4
  z4 := Tryz.sizeOf4
  v4 := Tryz.zeroValue4
  t5 := Tryz.underlying5
  a5 := Tryz.isAgg5
  z5 := Tryz.sizeOf5
  v5 := Tryz.zeroValue5
  t9 := Tryz.underlying9
  a9 := Tryz.isAgg9
  z9 := Tryz.sizeOf9
  v9 := Tryz.zeroValue9
  t22 := Tryz.underlying71
  a22 := Tryz.isAgg71
  z22 := Tryz.sizeOf71
  v22 := Tryz.zeroValue71
  t23 := Tryz.underlying71
  a23 := Tryz.isAgg71
  z23 := Tryz.sizeOf71
  v23 := Tryz.zeroValue71
  t25 := Tryz.underlying3
  a25 := Tryz.isAgg3
  z25 := Tryz.sizeOf3
  v25 := Tryz.zeroValue3
  t32 := Tryz.underlying109
  a32 := Tryz.isAgg109
  z32 := Tryz.sizeOf109
  v32 := Tryz.zeroValue109
  t35 := Tryz.underlying211
  a35 := Tryz.isAgg211
  z35 := Tryz.sizeOf211
  v35 := Tryz.zeroValue211
  t36 := Tryz.underlying212
  a36 := Tryz.isAgg212
  z36 := Tryz.sizeOf212
  v36 := Tryz.zeroValue212
  t41 := Tryz.underlying101
  a41 := Tryz.isAgg101
  z41 := Tryz.sizeOf101
  v41 := Tryz.zeroValue101
  t44 := Tryz.underlying96
  a44 := Tryz.isAgg96
  z44 := Tryz.sizeOf96
  v44 := Tryz.zeroValue96
  t46 := Tryz.underlying41
  a46 := Tryz.isAgg41
  z46 := Tryz.sizeOf41
  v46 := Tryz.zeroValue41
  t53 := Tryz.underlying221
  a53 := Tryz.isAgg221
  z53 := Tryz.sizeOf221
  v53 := Tryz.zeroValue221
  t57 := Tryz.underlying144
  a57 := Tryz.isAgg144
  z57 := Tryz.sizeOf144
  v57 := Tryz.zeroValue144
  t63 := Tryz.underlying228
  a63 := Tryz.isAgg228
  z63 := Tryz.sizeOf228
  v63 := Tryz.zeroValue228
  t64 := Tryz.underlying168
  a64 := Tryz.isAgg168
  z64 := Tryz.sizeOf168
  v64 := Tryz.zeroValue168 }
theorem Tryz.sortsT (m:Nat):AnyZI.SortsIn Tryz.prog Tryz.sortedT_ren Fence.wide m:=
 ⟨fun blk off cap ss W hH hblk hsz=>callsIn_wide.2 (AnyM.slices_Sort_int Tryz.sortT blk off cap ss W hH hblk hsz),
  fun p cap W=>callsIn_wide.2 (AnyM.slices_Sort_int_none Tryz.sortT p cap W)⟩
abbrev noR:Value->Option (DataW Unit×List MemPlace):=fun _=>some (.nil,[])
set_option maxHeartbeats 1000000 in
theorem sortedT_w {b bx:Nat} {ks:List Int} {w:World} {es:Array MapEntry} {clock:Nat} (hbl:bx<w.heap.size) (hbx:w.cell? ⟨bx,0,none⟩=some (.map (some b))) (hb:w.heap[b]? = some (.map es clock)) (hst:MapKept.Stamped es clock)
  (hl:es.toList.map (·.key)=ks.map encZ) (hk:∀ k∈ks,(Lit.int .i64 k).wf=true) (hn:ks.length<=60000) :
  Calls Tryz.prog 70 #[.func (.func 138) #[] #[.pointer (some ⟨bx,0,none⟩)]] w fun e w'=>∃ (v:Value) (ss:List Int),e = .returned v/\ss.Perm ks ∧
   w'.ownsRow w.heap.size 3 1 v ss.length ((ss.mergeSort leI).map encZ)/\Below w.heap.size w w':=by
 have hkey:∀ x∈es.toList,∃ k,x.key=encZ k/\(Lit.int .i64 k).wf=true:=fun x hx=>by
  have:x.key∈ks.map encZ:=by rw [<-hl];exact List.mem_map.2 ⟨x,hx,rfl⟩
  obtain ⟨k,h1,h2⟩:=List.mem_map.1 this
  exact ⟨k,h2.symm,hk k h1⟩
 have hsz:es.size=ks.length:=by
  have:=congrArg List.length hl
  simpa using this
 have hrd:∀ x∈es.toList,∃ k,x.key=encZ k/\WideElems.rd Tryz.prog 3 noR x=some (.int .i64 k,.nil):=fun x hx=>by
  obtain ⟨k,h1,h2⟩:=hkey x hx
  refine ⟨k,h1,?_⟩
  exact WideElems.rd_mk (P:=Tryz.prog) (k:=3) (R:=noR) (born:=x.born) (val:=x.val) (key:=x.key) (by rw [h1];exact Maps.keyOf_int_mk (k:=3) (by kernel_rfl) h2) rfl
 have hown:w.ownsMap Tryz.prog 3 noR b ks.length (.map ((es.toList.map (WideElems.rg Tryz.prog 3 noR)).foldr DataW.insert [])):=
  ⟨es,clock,hb,⟨by rw [hsz];unfold maxLen;omega,hst,fun x hx=>by obtain ⟨k,_,h⟩:=hrd x hx;exact ⟨_,h⟩⟩,by omega,rfl⟩
 have hperm:(intKeys (H:=Unit) (.map ((es.toList.map (WideElems.rg Tryz.prog 3 noR)).foldr DataW.insert []))).Perm ks:=by
  refine ((WideShapes.sorted_perm _).map _).trans ?_
  rw [List.map_map]
  have e:es.toList.map ((fun p:Lit×DataW Unit=>Go.intOf p.1) ∘ WideElems.rg Tryz.prog 3 noR)=ks:=by
   have h1:(es.toList.map ((fun p:Lit×DataW Unit=>Go.intOf p.1) ∘ WideElems.rg Tryz.prog 3 noR)).map encZ=ks.map encZ:=by
    rw [<-hl,List.map_map]
    refine List.map_congr_left fun x hx=>?_
    obtain ⟨k,h1,h2⟩:=hrd x hx
    simp only [Function.comp,WideElems.rg_of h2,h1,Go.intOf]
   exact (List.map_inj_right (fun x y h=>encZ_inj h)).1 h1
  rw [e]
 have hms:Maps.size (H:=Unit) (.map ((es.toList.map (WideElems.rg Tryz.prog 3 noR)).foldr DataW.insert []))=ks.length:=by
  show ((es.toList.map (WideElems.rg Tryz.prog 3 noR)).foldr DataW.insert []).length=ks.length
  rw [DataW.length_sorted];simp [hsz]
 generalize DataW.map ((es.toList.map (WideElems.rg Tryz.prog 3 noR)).foldr DataW.insert [])=D0 at *
 refine (callsIn_wide (n:=5)).1 ?_
 have hseq:SeqGives Fence.wide 2 Tryz.prog 138 #[.pointer (some ⟨bx,0,none⟩)] encZ (fun ss=>ss.Perm (intKeys D0)) (Maps.size D0) w:=
  AnyZI.keys_gives (ρ:=Tryz.keysT_ren) { Tryz.keysT with } Fence.wide _ trivial rfl (by omega) bx b ks.length D0 w hbl hbx hown
 have cS:=AnyZI.sorted_in Tryz.sortedT Fence.wide 5 trivial trivial trivial trivial rfl (by omega) (Tryz.sortsT _) (enters_of Tryz.func137 (by kernel_rfl) rfl) 138 #[.pointer (some ⟨bx,0,none⟩)] trivial (enters_of Tryz.func138 (by kernel_rfl) rfl) _ _ (by rw [hms];unfold maxLen;omega) (by rw [hms];omega) _ hseq
 change CallsIn _ _ Tryz.prog 70 _ _ _ at cS
 refine cS.mono ?_
 rintro e w' ⟨v,ss,rfl,hS,hrow,hnil,hB⟩
 exact ⟨v,ss,rfl,hS.trans hperm,hrow,hB⟩
end Go.Proofs
namespace Go.A
open Go.Proofs
theorem at_ints {σ:ASt} {w:World} {g:Nat} (hg:Still σ w g 0) (hs:σ g=none):∀ (ks:List Int) (o:Nat),(∀ (j:Nat) (z:Int),ks[j]? = some z->w.cell? ⟨g,o+j,none⟩=some (.int .i64 z))->At σ w g o (ks.map (AV.int .i64))
 | [],o,h => .nil g o
 | z::ks,o,h => .cons ⟨hg.1,.inl hs⟩ (h 0 z rfl) (.int _ _) (at_ints hg hs ks (o+1) fun j z hj=>by
   have:=h (j+1) z (by simpa using hj)
   rw [show o+1+j=o+(j+1) by omega]
   exact this)
theorem xsorted_ok {σ:ASt} {bx wb:Nat} {wl:List (Int×List UInt8)} (h1:σ bx=some (.obj [.map (some wb)])) (h2:σ wb=some (.maps wl)) (hk:∀ p∈wl,(Lit.int .i64 p.1).wf=true) (hn:wl.length<=60000) :
  ACalls Tryz.prog 70 [.func (.func 138) [] [.ptr bx 0]] σ fun v σ'=>∃ ks:List Int,v = .sl .shr (ks.map (AV.int .i64))/\ks.Perm (wl.map Prod.fst)/\σ'=σ:=by
 intro w vs hs ha
 cases ha with
 | cons hf hr=>
 cases hr
 cases hf with
 | func ha hb=>
 cases ha
 cases hb with
 | cons hb hr=>
 cases hr
 cases hb
 obtain ⟨us,hu,hc,_⟩:=hs.objCell h1
 cases hu with
 | cons hu hr=>
 cases hr
 cases hu
 obtain ⟨es,clock,hh,hl,hst⟩:=hs wb _ h2
 have hl':es.toList.map (·.key)=(wl.map Prod.fst).map encZ:=by
  have:=congrArg (List.map Prod.fst) hl
  simp only [List.map_map] at this
  rw [List.map_map]
  exact this
 refine (sortedT_w (hs.lt h1) (hc 0 _ rfl) hh hst hl' (fun k hkk=>by obtain ⟨p,hp,rfl⟩:=List.mem_map.1 hkk;exact hk p hp) (by rw [List.length_map];exact hn)).mono ?_
 rintro e w' ⟨v,ss,rfl,hp,hrow,hB⟩
 have hx:=Ext.of_below hB
 have hs':=hs.ext hx
 refine ⟨v,_,σ,rfl,⟨ss.mergeSort leI,rfl,(List.mergeSort_perm ss leI).trans hp,rfl⟩,ext_le hx,hs',?_⟩
 have hlen:(ss.mergeSort leI).length=ss.length:=List.length_mergeSort ss
 rcases hrow.2 with ⟨rfl,h0⟩|⟨g,cap,cur,rfl,hg1,hg2,hg3,hg4,hg5,hg6⟩
 ·have:ss.mergeSort leI = []:=List.eq_nil_of_length_eq_zero (by omega)
  rw [this]
  exact .slE none 0
 ·have hgl:g<w'.heap.size:=(Array.getElem?_eq_some_iff.1 hg2).1
  have hgn:σ g=none:=hs.fresh hg1
  have hat:=at_ints (σ:=σ) (w:=w') (g:=g) ⟨hgl,.inl hgn⟩ hgn (ss.mergeSort leI) 0 fun j z hj=>by
   have:=hrow.cells rfl j (.int .i64 z) (by rw [List.getElem?_map,hj];rfl)
   rw [Nat.zero_add]
   by_cases hj0:j=0
   ·subst hj0;simpa [Addr.add] using this
   ·simpa [Addr.add,hj0] using this
  refine .sl (sz:=1) (Row.unflat (fun x hx=>?_) ?_) (by rw [List.length_map,hlen]) hg3 trivial hgl
  ·obtain ⟨z,_,rfl⟩:=List.mem_map.1 hx
   rfl
  ·have e:((ss.mergeSort leI).map (AV.int .i64)).flatMap AV.cells=(ss.mergeSort leI).map (AV.int .i64):=by
    generalize ss.mergeSort leI=L
    induction L with
    | nil=>rfl
    | cons z L ih=>rw [List.map_cons,List.flatMap_cons,ih];rfl
   rw [e]
   exact hat
end Go.A
namespace Go.A
open Go.Proofs
/-! 21: (*tabular/pool.Pool).Undo -/
def c21_0:ACode := .ops [ oe 1 (.box (.t 0)),oe 2 (.alloc [(.int .i64 0)])]
def c21_5:ACode := .seq (.ops [ oq 12 (.ld none (.t 1)),oq 13 (.nc (.t 12)),oq 14 (.fa 5 (.t 13)),oq 15 (.ld none (.t 14)),oq 16 (.un .not (.t 15))]) (.cond (.t 16) (.seq (.ops [ oz (.store 1 (.t 2) (.v (.int .i64 14)))]) .ret) .skip)
def c21_6:ACode := .ops [ oq 17 (.ld none (.t 1)),oq 18 (.nc (.t 17)),oq 19 (.fa 6 (.t 18)),oq 20 (.ld none (.t 19)),oq 21 (.ld none (.t 1)),oq 22 (.nc (.t 21)),oq 23 (.fa 7 (.t 22)),oq 24 (.ld none (.t 23)),oq 3 (.mv (.t 20)),oq 4 (.mv (.t 24))]
def c21_7:ACode := .ops [ oq 25 (.ld none (.t 1)),oe 26 (.call 69 [(.t 25)])]
def c21_28:ACode := .seq (.ops [ oq 32 (.bin .lss (.t 31) (.t 30))]) (.seq (.cond (.t 32) .skip (.exit 0)) (.seq (.block 1 (.seq (.ops [ oq 33 (.ia 1 (.t 29) (.t 31)),oq 34 (.ld none (.t 33)),oq 6 (.mv (.t 34))]) (.seq (.ops [ oq 36 (.ld none (.t 1)),oq 37 (.mv (.t 6)),oe 38 (.call 72 [(.t 36),(.t 37)]),oq 35 (.mv (.t 38)),oq 39 (.ext 0 (.t 35)),oq 40 (.ext 1 (.t 35)),oq 7 (.mv (.t 39)),oq 8 (.mv (.t 40))]) (.seq (.seq (.ops [ oq 41 (.mv (.t 8)),oq 42 (.bin .neq (.t 41) (.v (.int .i64 0)))]) (.cond (.t 42) (.seq (.ops [ oq 43 (.mv (.t 8)),oz (.store 1 (.t 2) (.t 43))]) .ret) .skip)) (.seq (.ops [ oq 44 (.mv (.t 7)),oq 46 (.mv (.t 3)),oq 47 (.mv (.t 6)),oq 48 (.mgets false (.t 46) (.t 47)),⟨some 45,none,.e (.call 34 [(.t 44)]),[⟨none,.mgets false (.t 46) (.t 47),48⟩]⟩,oe 49 (.cpy (.t 45) (.t 48))]) (.ops [ oq 50 (.mv (.t 7)),oe 51 (.call 31 [(.t 50)])])))))) (.ops [ oq 52 (.bin .add (.t 31) (.v (.int .i64 1))),oq 31 (.mv (.t 52))])))
def c21_31:ACode := .seq (.ops [ oq 27 (.mv (.t 3)),oe 28 (.call 71 [(.t 27)]),oe 29 (.call 70 [(.t 28)]),oq 30 (.len (.t 29)),oq 31 (.mv (.v (.int .i64 0)))]) (.block 0 (.loop c21_28))
def c21_32:ACode := .ops [ oq 53 (.mv (.t 4)),oe 54 (.call 73 [(.t 53)])]
def c21_35:ACode := .ops [ oz (.store 1 (.t 2) (.v (.int .i64 0)))]
@[go_sem] def c21_0_wp:=wp_of c21_0.eq_1
@[go_sem] def c21_5_wp:=wp_of c21_5.eq_1
@[go_sem] def c21_6_wp:=wp_of c21_6.eq_1
@[go_sem] def c21_7_wp:=wp_of c21_7.eq_1
@[go_sem] def c21_28_wp:=wp_of c21_28.eq_1
@[go_sem] def c21_31_wp:=wp_of c21_31.eq_1
@[go_sem] def c21_32_wp:=wp_of c21_32.eq_1
@[go_sem] def c21_35_wp:=wp_of c21_35.eq_1
/-! 71: maps.Keys[map[int]string,int,string] -/
def c71_3:ACode := .seq (.ops [ oe 1 (.box (.t 0)),oq 2 (.mv (.v .nilf))]) (.seq (.ops [ oq 3 (.mkf (.func 138) [] [(.t 1)]),oq 2 (.mv (.t 3))]) .ret)
@[go_sem] def c71_3_wp:=wp_of c71_3.eq_1
def c71:AFn:=⟨4,[.t 2],c71_3⟩
theorem c71_ok:compF Tryz.prog Tryz.f71=some c71:=by kernel_rfl
theorem a71 {args:List AV} {σ:ASt} {R:AV->ASt->Prop} (hl:args.length<=4) (h:c71_3.wp Tryz.prog (RetQ [.t 2] R) (init args) σ):ACalls Tryz.prog 71 args σ R:=acalls_of Tryz.func71 c71_ok hl h
end Go.A
section
attribute [local go_sem] reduceCtorEq Nat.reduceEqDiff Nat.reduceAdd Nat.reduceSub Nat.reduceMul Nat.reduceLeDiff Int.reduceLT Int.reduceLE Int.reduceEq Int.reduceNeg Int.reduceAdd Int.reduceSub Int.reduceMul true_imp_iff forall_const Nat.mul_one Int.reduceToNat Nat.reducePow Int.reducePow Bool.true_and Bool.false_and Bool.and_false
attribute [local go_sem ↓] reduceIte
namespace Go.A
open Go.Proofs
theorem wf_page {q:Nat} (h:q<60000):(Lit.int .i64 (q:Int)).wf=true:=by
 have h1:IntKind.i64.min = -9223372036854775808:=by decide
 have h2:IntKind.i64.max=9223372036854775807:=by decide
 show (decide (IntKind.i64.min<=(q:Int)) && decide ((q:Int)<=IntKind.i64.max))=true
 rw [h1,h2,Bool.and_eq_true,decide_eq_true_eq,decide_eq_true_eq]
 omega
theorem mkeys_ok {σ:ASt} (wb:Nat):ACalls Tryz.prog 71 [.map (some wb)] σ fun v σ'=>∃ bx,v = .func (.func 138) [] [.ptr bx 0]/\σ bx=none/\σ'=σ.set bx (some (.obj [.map (some wb)])):=by
 refine a71 (by simp) ?_
 simp (disch:=first|assumption|omega|(simp only [List.length_append,List.length_cons,List.length_nil];omega)) only [go_sem]
 refine boxC_by rfl fun bx hbx=>?_
 simp (disch:=first|assumption|omega|(simp only [List.length_append,List.length_cons,List.length_nil];omega)) only [go_sem]
 exact retC_by (.refl _) (.refl _) ⟨bx,rfl,hbx,rfl⟩
theorem spl_all {b t:List UInt8} (h:t.length=b.length):spl b 0 t=t:=by
 unfold spl
 rw [Nat.zero_add,List.take_zero,List.nil_append,List.drop_of_length_le (by omega),List.append_nil]
section
variable {B σ:ASt} {p n wb bp br:Nat} {most:Int} {ph:Pgs} {wl:List (Int×List UInt8)} {a:AFr} {mv:AV}
theorem keyM_some {α:Type}:∀ {l:List (Int×α)} {k:Int},k∈l.map Prod.fst->∃ s,findM l k=some s
 | p::l,k,h=>by
   unfold findM
   by_cases hk:k=p.1
   ·exact ⟨_,if_pos hk⟩
   ·rw [if_neg hk]
    exact keyM_some ((List.mem_cons.1 h).resolve_left hk)
theorem keyM_of {α:Type}:∀ {l:List (Int×α)} {k:Int} {s:α},findM l k=some s->k∈l.map Prod.fst
 | p::l,k,s,h=>by
   unfold findM at h
   by_cases hk:k=p.1
   ·exact List.mem_cons.2 (.inl hk)
   ·rw [if_neg hk] at h
    exact List.mem_cons.2 (.inr (keyM_of h))
set_option maxHeartbeats 1000000 in
theorem undo_loop (h:PoolAt B σ p ⟨most,none⟩ n ph) (hbp:B bp=some (.obj [.ptr p 0])) (hwb:B wb=some (.maps wl)) (hwl:wl.length<=60000) (hw:∀ k s,findM wl k=some s->∃ q:Nat,k=q/\q<60000/\ph q≠none/\s.length=504)
  (ha:a 1 = .ptr bp 0/\a 2 = .ptr br 0/\a 3 = .map (some wb)/\a 4=mv) {Q:APost}
  (hQ:∀ (a':AFr) (σ':ASt) (ph':Pgs),(a' 1 = .ptr bp 0/\a' 2 = .ptr br 0/\a' 4=mv)->PoolAt B σ' p ⟨most,none⟩ n ph'->(∀ (q:Nat) s,findM wl (q:Int)=some s->ph' q=some s)->(∀ (q:Nat),findM wl (q:Int)=none->ph' q=ph q)->Q .normal a' σ') :
  c21_31.wp Tryz.prog Q a σ:=by
 have hK:=mkeys_ok (σ:=σ) wb
 have hck0:=h.ck
 simp (disch:=first|assumption|omega|(simp only [List.length_append,List.length_cons,List.length_nil];omega)) only [go_sem,ha]
 refine hK.mono ?_
 rintro v σ1 ⟨bx,rfl,hbx,rfl⟩
 have hbB:B bx=none:=own_none (σ:=σ) (fun x r hx=>h.at hx) bx hbx
 have hbk:bx≠0:=fun e=>by
  have:=h.at h.ck
  rw [<-e,hbx] at this
  cases this
 have h1:=h.set (some (.obj [.map (some wb)])) (.inr hbx) hbk
 have hle:∀ x r,B x=some r->(B.set bx (some (.obj [.map (some wb)]))) x=some r:=fun x r hx=>by
  rw [ASt.set_ne (fun e=>by rw [e,hbB] at hx;cases hx)];exact hx
 have hS:=xsorted_ok (σ:=σ.set bx (some (.obj [.map (some wb)]))) (ASt.set_same _ _ _) (h1.at (hle _ _ hwb)) (fun p hp=>by
  obtain ⟨s,hs⟩:=keyM_some (List.mem_map.2 ⟨p,hp,rfl⟩)
  obtain ⟨q,hq,hq2,_⟩:=hw _ _ hs
  rw [hq]
  exact wf_page hq2) hwl
 obtain ⟨σ1,hσ1⟩:∃ s,s=σ.set bx (some (.obj [.map (some wb)])):=⟨_,rfl⟩
 rw [<-hσ1] at h1 hS ⊢
 obtain ⟨B2,hB2⟩:∃ s,s=B.set bx (some (.obj [.map (some wb)])):=⟨_,rfl⟩
 rw [<-hB2] at h1 hle
 clear hσ1 hB2 hK h
 simp (disch:=first|assumption|omega|(simp only [List.length_append,List.length_cons,List.length_nil];omega)) only [go_sem]
 refine hS.mono ?_
 rintro v σ2 ⟨ks,rfl,hp,rfl⟩
 have hlk:(ks.map (AV.int .i64)).length=ks.length:=List.length_map _
 have hgk:∀ (i:Nat) (k:Int),ks[i]? = some k->(ks.map (AV.int .i64))[i]? = some (.int .i64 k):=fun i k hk=>by rw [List.getElem?_map,hk];rfl
 have hln:ks.length<=60000:=by rw [hp.length_eq,List.length_map];exact hwl
 generalize ks.map (AV.int .i64)=KV at *
 simp (disch:=first|assumption|omega|(simp only [List.length_append,List.length_cons,List.length_nil];omega)) only [go_sem,hlk]
 obtain ⟨J,hJ⟩:∃ J:Nat->AFr->ASt->Prop,J=fun i a1 s2=>i<=ks.length/\(a1 1 = .ptr bp 0/\a1 2 = .ptr br 0/\a1 3 = .map (some wb)/\a1 4=mv/\a1 29 = .sl .shr KV/\a1 30 = .int .i64 ks.length/\a1 31 = .int .i64 i) ∧
  ∃ phi,PoolAt B2 s2 p ⟨most,none⟩ n phi/\(∀ (q:Nat) s,(q:Int)∈ks.take i->findM wl (q:Int)=some s->phi q=some s)/\∀ (q:Nat),(q:Int) ∉ ks.take i->phi q=ph q:=⟨_,rfl⟩
 refine wp_loop_on J (fun i=>ks.length+1-i) 0 ?_ ?_
 ·rw [hJ]
  refine ⟨Nat.zero_le _,?_,ph,h1,fun q s hq=>(by cases hq),fun q _=>rfl⟩
  simp (disch:=first|assumption|omega|(simp only [List.length_append,List.length_cons,List.length_nil];omega)) only [go_sem,ha]
  try rfl
 intro i a1 s2 hj
 rw [hJ] at hj
 obtain ⟨hi,hf1,phi,hP,hin,hout⟩:=hj
 by_cases hlt':i<ks.length
 ·have hlt:(i:Int)<(ks.length:Int):=by omega
  obtain ⟨k,hk⟩:∃ k,ks[i]? = some k:=⟨_,List.getElem?_eq_getElem hlt'⟩
  have hg:=hgk i k hk
  obtain ⟨s,hs⟩:=keyM_some (hp.mem_iff.1 (List.mem_of_getElem? hk))
  obtain ⟨q,rfl,hq1,hq2,hq3⟩:=hw _ _ hs
  obtain ⟨s0,hs0⟩:∃ s0,phi q=some s0:=by
   by_cases hm:(q:Int)∈ks.take i
   ·exact ⟨s,hin q s hm hs⟩
   ·rw [hout q hm]
    exact Option.ne_none_iff_exists'.1 hq2
  have hsl:=hP.slen hs0
  have hpin:=plpin_ok hP hs0
  have hbps:=hP.at (hle _ _ hbp)
  have i0:¬ (i:Int)<0:=by omega
  simp (disch:=first|assumption|omega|(simp only [List.length_append,List.length_cons,List.length_nil];omega)) only [go_sem,hf1,hlt,i0,hg,Int.toNat_natCast,hbps]
  refine hpin.mono ?_
  rintro v σ3 ⟨fa,xa,c,dirty,rfl,hxa,hxk,hc,h3⟩
  have hed:=pledit_ok h3 (ASt.set_same _ _ _) hsl (.inr hs0)
  have hwx:wb≠xa:=fun e=>by
   have:=hle _ _ hwb
   rw [e,hxa] at this;cases this
  have hwB:(B2.set xa (some (.obj (bytesAV s0)))) wb=some (.maps wl):=by rw [ASt.set_ne hwx];exact hle _ _ hwb
  have hw3:=h3.at hwB
  simp (disch:=first|assumption|omega|(simp only [List.length_append,List.length_cons,List.length_nil];omega)) only [go_sem,hf1,hw3,hs,Option.getD_some]
  refine hed.mono ?_
  rintro v σ4 ⟨rfl,h4⟩
  have hw4:=h4.at hwB
  have hx4:=h4.at (ASt.set_same _ _ _)
  have htk:s.take 504=s:=List.take_of_length_le (by omega)
  have h5:=h4.set (some (.obj (bytesAV s))) (.inl (by rw [ASt.set_same];simp)) hxk
  rw [ASt.set_set] at h5
  have hun:=plunpin_ok h5 (ASt.set_same _ _ _) hq3 (.inl rfl) hxk
  rw [ASt.set_set] at hun
  have hBB:B2.set xa none=B2:=by
   funext x
   by_cases hx:x=xa
   ·rw [hx,ASt.set_same,hxa]
   ·rw [ASt.set_ne hx]
  rw [hBB] at hun
  simp (disch:=first|assumption|omega|(simp only [List.length_append,List.length_cons,List.length_nil];omega)) only [go_sem,hf1,hw4,hs,Option.getD_some]
  refine cpyC_by hx4 (by rw [kbytes_len];omega) ?_
  rw [htk,splice_bytes,spl_all (by omega)]
  simp (disch:=first|assumption|omega|(simp only [List.length_append,List.length_cons,List.length_nil];omega)) only [go_sem,hf1]
  refine hun.mono ?_
  rintro v σ5 ⟨rfl,h6⟩
  simp (disch:=first|assumption|omega|(simp only [List.length_append,List.length_cons,List.length_nil];omega)) only [go_sem,hf1]
  refine ⟨i+1,by omega,?_⟩
  rw [hJ]
  refine ⟨hlt',?_,_,h6,fun r t hr ht=>?_,fun r hr=>?_⟩
  ·simp (disch:=first|assumption|omega|(simp only [List.length_append,List.length_cons,List.length_nil];omega)) only [go_sem,hf1]
   try exact ⟨rfl,rfl⟩
  ·rw [List.take_add_one,hk] at hr
   unfold pset
   split
   ·rename_i he
    rw [he,hs] at ht
    exact ht
   ·rename_i hne
    rcases List.mem_append.1 hr with hr|hr
    ·exact hin r t hr ht
    ·exfalso
     have:(r:Int)=(q:Int):=by simpa using hr
     omega
  ·rw [List.take_add_one,hk] at hr
   have hne:r≠q:=fun e=>hr (by rw [e];simp)
   rw [pset_ne hne]
   exact hout r fun hm=>hr (List.mem_append_left _ hm)
 ·have hlt:¬ (i:Int)<(ks.length:Int):=by omega
  obtain rfl:i=ks.length:=by omega
  rw [List.take_length] at hin hout
  simp (disch:=first|assumption|omega|(simp only [List.length_append,List.length_cons,List.length_nil];omega)) only [go_sem,hf1,hlt]
  refine hQ _ _ phi ?_ (hP.less hle hck0) (fun q s hq=>hin q s ?_ hq) fun q hq=>hout q ?_
  ·simp (disch:=first|assumption|omega|(simp only [List.length_append,List.length_cons,List.length_nil];omega)) only [go_sem,hf1]
  ·exact hp.mem_iff.2 (keyM_of hq)
  ·intro hm
   obtain ⟨s,hs⟩:=keyM_some (hp.mem_iff.1 hm)
   rw [hq] at hs;cases hs
end
end Go.A
end
namespace Go.Proofs
open Go.RowKit Go.Shelf
attribute [local go_sem] Oper.semAt_some
set_option maxHeartbeats 2000000 in
theorem back_in (n:Nat) (hn:1<=n) (l bs:Nat) (A:Option Addr) (c:Nat) (rows:List Nat) (hr:rows.length<=100000) (J:Nat->World->Prop)
  (hJ:∀ k W,J k W->W.cell? ⟨bs,0,none⟩=some (.slice A rows.length c)/\∀ (j z:Nat),rows[j]? = some z->∃ b o,A=some ⟨b,o,none⟩/\W.cell? ⟨b,o+j,none⟩=some (.int .i64 z))
  (hY:∀ (k z:Nat) W,J (k+1) W->rows[k]? = some z->YieldAt Fence.wide (n-1) Tryz.prog l #[.int .i64 k,.int .i64 z] W fun e W'=>e = .returned (.bool true)/\J k W')
  (W:World) (h0:J rows.length W) :
  CallsIn Fence.wide n Tryz.prog 140 #[.func (.yield l) #[] #[],.pointer (some ⟨bs,0,none⟩)] W fun e W'=>(∃ v,e = .returned v)/\J 0 W':=by
 refine callsIn_of_wp Tryz.func140 rfl trivial ?_ rfl
 simp only [Tryz.ntmps140,List.size_toArray,List.length_cons,List.length_nil,Nat.reduceAdd,Nat.reduceSub,Array.replicate_succ,Array.replicate_zero,List.push_toArray,List.append_toArray,List.nil_append,List.cons_append]
 obtain ⟨c1,c2⟩:=hJ _ _ h0
 have w0:IntKind.i64.wrap ((rows.length:Int)-1)=(rows.length:Int)-1:=by rw [IntKind.wrap_i64];omega
 gi_wp2
 gi_loopw [3] (fun vi wr=>∃ k:Nat,vi = .int .i64 ((k:Int)-1)/\k<=rows.length/\J k wr) (fun vi _=>(intOf vi+1).toNat)
 case atStart=>
  exact ⟨rows.length,rfl,Nat.le_refl _,h0⟩
 case round=>
  obtain ⟨k,rfl,hk,hJk⟩:=hrel
  cases k with
  | zero=>
    gi_wp2
    go_end0
    exact ⟨⟨_,rfl⟩,hJk⟩
  | succ k=>
    obtain ⟨c1,c2⟩:=hJ _ _ hJk
    obtain ⟨z,hz⟩:∃ z,rows[k]? = some z:=⟨_,List.getElem?_eq_getElem (by omega)⟩
    obtain ⟨b,o,rfl,c3⟩:=c2 k z hz
    obtain ⟨fn,tmps,assign,body,hy,hR⟩:=hY k z wr hJk hz
    have e1:((k+1:Nat):Int)-1=(k:Int):=by omega
    rw [e1]
    have k0:(k:Int) ≥ 0:=by omega
    have k1:(k:Int)<(rows.length:Int):=by omega
    have w1:IntKind.i64.wrap ((k:Int)-1)=(k:Int)-1:=by rw [IntKind.wrap_i64];omega
    gi_wp2
    refine hR.mono ?_
    rintro e W' ⟨rfl,hJ'⟩
    gi_wp2
    go_roundw
    case rel=>exact ⟨k,rfl,by omega,hJ'⟩
    case measure=>simp only [intOf];omega
end Go.Proofs
namespace Go.A
open Go.Proofs
section
variable {W:World} {D:Nat} {o o':Obj} {σ:ASt}
theorem putObj_cell (h:W.heap[D]? = some o) (ho:o.isCells=false) (ho':o'.isCells=false) (A:Addr):(W.putObj D o').cell? A=W.cell? A:=by
 have hl:=(Array.getElem?_eq_some_iff.1 h).1
 unfold World.cell?
 by_cases hb:A.block=D
 ·rw [hb,World.putObj_heap_same hl,h]
  cases o<;>cases o'<;>first|rfl|exact Bool.noConfusion ho'|exact Bool.noConfusion ho
 ·rw [World.putObj_heap_other hb]
theorem putObj_shape (h:W.heap[D]? = some o) (ho:o.isCells=false) (ho':o'.isCells=false) (b:Nat):(W.putObj D o').shape? b=W.shape? b:=by
 have hl:=(Array.getElem?_eq_some_iff.1 h).1
 unfold World.shape?
 by_cases hb:b=D
 ·rw [hb,World.putObj_heap_same hl,h]
  cases o<;>cases o'<;>first|rfl|exact Bool.noConfusion ho'|exact Bool.noConfusion ho
 ·rw [World.putObj_heap_other hb]
theorem putObj_frozen (h:W.heap[D]? = some o) (ho:o.isCells=false) (ho':o'.isCells=false) (A:Addr):(W.putObj D o').frozen? A=W.frozen? A:=by
 have hl:=(Array.getElem?_eq_some_iff.1 h).1
 unfold World.frozen?
 by_cases hb:A.block=D
 ·rw [hb,World.putObj_heap_same hl,h]
  cases o<;>cases o'<;>first|rfl|exact Bool.noConfusion ho'|exact Bool.noConfusion ho
 ·rw [World.putObj_heap_other hb]
theorem putObj_cells (h:W.heap[D]? = some o) (ho:o.isCells=false) {b:Nat} {c:Array Value} {T:TypeId} {fr:Nat×Nat} (hb:W.heap[b]? = some (.cells c T fr)):(W.putObj D o').heap[b]? = some (.cells c T fr):=by
 rw [World.putObj_heap_other]
 ·exact hb
 ·rintro rfl
  rw [h] at hb
  injection hb with hb
  subst hb
  cases ho
structure Sw (W W':World):Prop where
 size:W'.heap.size=W.heap.size
 cell:∀ A,W'.cell? A=W.cell? A
 shape:∀ b,W'.shape? b=W.shape? b
 cells:∀ {b:Nat} {c:Array Value} {T:TypeId} {fr:Nat×Nat},W.heap[b]? = some (.cells c T fr)->W'.heap[b]? = some (.cells c T fr)
theorem Sw.put (h:W.heap[D]? = some o) (ho:o.isCells=false) (ho':o'.isCells=false):Sw W (W.putObj D o'):=
 ⟨World.putObj_size,putObj_cell h ho ho',putObj_shape h ho ho',putObj_cells h ho⟩
theorem Sw.ok {W':World} (h:Sw W W') {k:SK} {b o n c sz:Nat} (hk:k.ok σ W b o n c sz):k.ok σ W' b o n c sz:=by
 cases k<;>simp only [SK.ok] at hk ⊢
 ·exact hk
 ·obtain ⟨h1,h2,h3,h4,h5⟩:=hk
  exact ⟨h1,h2,h3,by rw [h.shape];exact h4,h5⟩
 ·obtain ⟨h1,h2,h3,cs,T,h4⟩:=hk
  exact ⟨h1,h2,h3,cs,T,h.cells h4⟩
mutual
theorem Rep.sw {W':World} (h:Sw W W'):∀ {a:AV} {v:Value},Rep σ W a v->Rep σ W' a v
 | _,_,.any v => .any v
 | _,_,.bool b => .bool b
 | _,_,.int k n => .int k n
 | _,_,.str l => .str l
 | _,_,.ptr b o => .ptr b o
 | _,_,.imm h1 => .imm (h1.sw h)
 | _,_,.nilp => .nilp
 | _,_,.slE A c => .slE A c
 | _,_,.slN => .slN
 | _,_,.sl h1 h2 h3 h4 h5 => .sl (h1.sw h) h2 h3 (h.ok h4) (by rw [h.size];exact h5)
 | _,_,.msl b o n c => .msl b o n c
 | _,_,.agg h1 => .agg (h1.sw h)
 | _,_,.tuple h1 => .tuple (h1.sw h)
 | _,_,.iface h1 => .iface (h1.sw h)
 | _,_,.nili => .nili
 | _,_,.func h1 h2 => .func (h1.sw h) (h2.sw h)
 | _,_,.nilf => .nilf
 | _,_,.map r => .map r
theorem Reps.sw {W':World} (h:Sw W W'):∀ {xs:List AV} {vs:List Value},Reps σ W xs vs->Reps σ W' xs vs
 | _,_,.nil => .nil
 | _,_,.cons h1 h2 => .cons (h1.sw h) (h2.sw h)
theorem At.sw {W':World} (h:Sw W W'):∀ {b o:Nat} {xs:List AV},At σ W b o xs->At σ W' b o xs
 | _,_,_,.nil b o => .nil b o
 | _,_,_,.cons h1 h2 h3 h4 => .cons ⟨by rw [h.size];exact h1.1,h1.2⟩ ((h.cell _).trans h2) (h3.sw h) (h4.sw h)
theorem Row.sw {W':World} (h:Sw W W'):∀ {b o sz:Nat} {xs:List AV},Row σ W b o sz xs->Row σ W' b o sz xs
 | _,_,_,_,.nil b o sz => .nil b o sz
 | _,_,_,_,.cons h1 h2 h3 => .cons h1 (h2.sw h) (h3.sw h)
end
theorem Sim.sw (hs:Sim σ W) (h:W.heap[D]? = some o) (ho:o.isCells=false) (ho':o'.isCells=false) (hD:σ D=none):Sim σ (W.putObj D o'):=by
 intro b r hb
 have hne:b≠D:=fun e=>by rw [e,hD] at hb;cases hb
 have hh:(W.putObj D o').heap[b]? = W.heap[b]? := World.putObj_heap_other hne
 have hsw:=Sw.put h ho ho'
 have hr:=hs b r hb
 cases r with
 | obj cs=>
   obtain ⟨c,T,fr,h1,h2,h3⟩:=hr
   exact ⟨c,T,fr,hh.trans h1,h2.sw hsw,fun o hl=>by rw [putObj_frozen h ho ho'];exact h3 o hl⟩
 | tok f=>obtain ⟨c,T,fr,h1,h2⟩:=hr;exact ⟨c,T,fr,hh.trans h1,h2⟩
 | fix cs=>obtain ⟨h0,c,T,fr,h1,h2⟩:=hr;exact ⟨h0.sw hsw,c,T,fr,hh.trans h1,h2⟩
 | iter l p=>exact hh.trans hr
 | typ T vs=>exact hh.trans hr
 | map l=>obtain ⟨es,cl,h1,h2⟩:=hr;exact ⟨es,cl,hh.trans h1,h2⟩
 | maps l=>obtain ⟨es,cl,h1,h2⟩:=hr;exact ⟨es,cl,hh.trans h1,h2⟩
theorem Le.sw {σ0:ASt} {w0:World} (hl:Le σ0 w0 σ W) (h:W.heap[D]? = some o) (ho:o.isCells=false) (ho':o'.isCells=false) (hD:w0.heap.size<=D):Le σ0 w0 σ (W.putObj D o'):=by
 have hh:∀ b,b<w0.heap.size->(W.putObj D o').heap[b]? = W.heap[b]? := fun b hb=>World.putObj_heap_other (by omega)
 refine ⟨hl.os,hl.tape,hl.output,by rw [World.putObj_size];exact hl.size,fun b hb hn=>?_,fun b cs hb hn=>?_,fun b f hb hn=>?_⟩
 ·obtain ⟨h1,h2⟩:=hl.keep b hb hn
  exact ⟨h1,(hh b hb).trans h2⟩
 ·obtain ⟨h1,h2⟩:=hl.fix b cs hb hn
  exact ⟨h1,(hh b hb).trans h2⟩
 ·obtain ⟨h1,h2,h3⟩:=hl.tok b f hb hn
  exact ⟨h1,(putObj_shape h ho ho' b).trans h2,fun o hl=>(putObj_cell h ho ho' _).trans (h3 o hl)⟩
end
def CK (P:Program) (n:Nat) (D:List Deferred) (σ0:ASt) (w0:World) (K:Act->World->Prop):APost:=fun e a σ=>e = .normal/\∀ act w,Sim σ w->FRel n D σ w a act->Le σ0 w0 σ w->K act w
theorem chunk {P:Program} {n:Nat} {D:List Deferred} {x:Code} {ac:ACode} (hx:compC P n x=some ac) (hnd:ac.nd=true) {σ0 σ:ASt} {w0 w:World} {a:AFr} {act:Act} {K:Act->World->Prop} (hs:Sim σ w) (hf:FRel n D σ w a act) (hl:Le σ0 w0 σ w)
  (h:ac.wp P (CK P n D σ0 w0 K) a σ) {Q:Exit->Act->World->Prop} (hQ:∀ act w,K act w->Q .normal act w):x.wp P Q act w:=by
 refine wp_mono (compC_sound x ac hx D _ a σ act w h hs hf σ0 w0 hl) ?_
 rintro e act' w' ⟨ex,a',σ',ds,rfl,h0,h1,h2,h3,h4⟩
 obtain rfl:ds = []:=Classical.byContradiction fun hn=>by rw [hnd] at h0;cases (h0 hn).2
 obtain ⟨rfl,hk⟩:=h1
 exact hQ _ _ (hk _ _ h3 h4 h2)
theorem chunk_seq {P:Program} {n:Nat} {D:List Deferred} {x y:Code} {ac:ACode} (hx:compC P n x=some ac) (hnd:ac.nd=true) {σ0 σ:ASt} {w0 w:World} {a:AFr} {act:Act} {Q:Exit->Act->World->Prop} (hs:Sim σ w) (hf:FRel n D σ w a act) (hl:Le σ0 w0 σ w)
  (h:ac.wp P (CK P n D σ0 w0 (y.wp P Q)) a σ):(Code.seq x y).wp P Q act w:=
 wp_seq (chunk hx hnd hs hf hl h fun _ _ hk=>hk)
end Go.A
namespace Go.Proofs
open Go.RowKit Go.Shelf
theorem range_own2 {P:Program} {n:Nat} {g:Operand} {ps:Array Tmp} {assign body:Code} {Q:Exit->Act->World->Prop} {a:Act} {w1:World} (h1:1<=n) {gf:Nat} {lb:Array Value}
  (hg:a.eval g = .func (.func gf) #[] lb) (eg:∀ args W,(callFunc gf args).run P W = .ok (.enter gf args) W) (S:World->Prop)
  (hit:∀ (fn:FuncId) (rec:LoopState->Option Code->Loop),(rec=fun st pe => { state:=st,pending:=pe,fn,tmps:=a.tmps,params:=ps,assign,body,defers:=w1.heap.size }) →
   CallsIn Fence.wide (n-1) P gf (#[.func (.yield (w1.heap.size+1)) #[] #[]]++lb) ((w1.alloc (.deferred (some []))).alloc (.loop (rec .ready none))) fun e W=>(∃ v,e = .returned v)/\S W/\W.heap[w1.heap.size+1]? = some (.loop (rec .ready none)))
  (hdone:∀ (W:World) (o o':Obj),S W->W.heap[w1.heap.size+1]? = some o->o.isCells=false->o'.isCells=false->Q .normal { a with defers := { target := .collected w1.heap.size,args := #[] }::a.defers } (W.putObj (w1.heap.size+1) o')) :
  (Code.rangeFunc g ps assign body).wpIn Fence.wide n P Q a w1:=by
 refine wpIn_rangeFunc ?_
 intro fn hfn
 obtain ⟨rec,hrec⟩:∃ rec:LoopState->Option Code->Loop,rec=fun st pe => { state:=st,pending:=pe,fn,tmps:=a.tmps,params:=ps,assign,body,defers:=w1.heap.size }:=⟨_,rfl⟩
 refine ⟨w1.heap.size+1,[{ target := .collected w1.heap.size,args := #[] }],(w1.alloc (.deferred (some []))).alloc (.loop (rec .ready none)),{ target := .fn (.func gf) lb,args := #[.func (.yield (w1.heap.size+1)) #[] #[]] },(w1.alloc (.deferred (some []))).alloc (.loop (rec .ready none)),gf,
  #[.func (.yield (w1.heap.size+1)) #[] #[]]++lb,(w1.alloc (.deferred (some []))).alloc (.loop (rec .ready none)),?_,?_,?_,?_,fun _=>h1,?_⟩
 ·rw [hrec];exact run_enterLoop_outer _ _ _ _ _
 ·simp only [resolve,hg]
  simp [go_sem]
 ·intro f' _;trivial
 ·simp [invoke,go_sem,eg]
 ·refine (hit fn rec hrec).mono ?_
  rintro e W ⟨⟨v,rfl⟩,hS,hl⟩
  exact ⟨none,_,by have:=run_endLoop (P:=P) hl (by rw [hrec];simp);rw [hrec] at this;exact this,hdone W _ _ hS hl rfl rfl⟩
end Go.Proofs
namespace Go.A
open Go.Proofs
/-! 73: slices.Backward[[]int,int] -/
def c73_3:ACode := .seq (.ops [ oe 1 (.box (.t 0)),oq 2 (.mv (.v .nilf))]) (.seq (.ops [ oq 3 (.mkf (.func 140) [] [(.t 1)]),oq 2 (.mv (.t 3))]) .ret)
@[go_sem] def c73_3_wp:=wp_of c73_3.eq_1
def c73:AFn:=⟨4,[.t 2],c73_3⟩
theorem c73_ok:compF Tryz.prog Tryz.f73=some c73:=by kernel_rfl
theorem a73 {args:List AV} {σ:ASt} {R:AV->ASt->Prop} (hl:args.length<=4) (h:c73_3.wp Tryz.prog (RetQ [.t 2] R) (init args) σ):ACalls Tryz.prog 73 args σ R:=acalls_of Tryz.func73 c73_ok hl h
end Go.A
section
attribute [local go_sem] reduceCtorEq Nat.reduceEqDiff Nat.reduceAdd Nat.reduceSub Nat.reduceMul Nat.reduceLeDiff Int.reduceLT Int.reduceLE Int.reduceEq Int.reduceNeg Int.reduceAdd Int.reduceSub Int.reduceMul true_imp_iff forall_const Nat.mul_one Int.reduceToNat Nat.reducePow Int.reducePow Bool.true_and Bool.false_and Bool.and_false
attribute [local go_sem ↓] reduceIte
namespace Go.A
open Go.Proofs
theorem lit63 {T:Array Value} (h:T.size=63):∃ g:Nat->Value,T = #[g 0,g 1,g 2,g 3,g 4,g 5,g 6,g 7,g 8,g 9,g 10,g 11,g 12,g 13,g 14,g 15,g 16,g 17,g 18,g 19,g 20,g 21,g 22,g 23,g 24,g 25,g 26,g 27,g 28,g 29,g 30,g 31,g 32,g 33,g 34,g 35,g 36,g 37,g 38,g 39,g 40,g 41,g 42,g 43,g 44,g 45,g 46,g 47,g 48,g 49,g 50,g 51,g 52,g 53,g 54,g 55,g 56,g 57,g 58,g 59,g 60,g 61,g 62]/\∀ i,T.getD i undef=g i:=by
 have e:T.toList=(List.range 63).map fun i=>T.getD i undef:=by
  refine List.ext_getElem (by simp [h]) fun i h1 h2=>?_
  have hi:i<T.size:=by simpa using h1
  simp [Array.getD,hi]
 have e2:T=((List.range 63).map fun i=>T.getD i undef).toArray:=by rw [<-e]
 exact ⟨fun i=>T.getD i undef,e2.trans rfl,fun i=>rfl⟩
theorem xback_ok {σ:ASt} {mv:AV} (hm:mv.isAny=false) (hmc:mv.cells = [mv]):ACalls Tryz.prog 73 [mv] σ fun v σ'=>∃ bs,v = .func (.func 140) [] [.ptr bs 0]/\σ bs=none/\σ'=σ.set bs (some (.obj [mv])):=by
 refine a73 (by simp) ?_
 simp (disch:=first|assumption|omega|(simp only [List.length_append,List.length_cons,List.length_nil];omega)) only [go_sem]
 refine boxC_by hm fun bx hbx=>?_
 rw [hmc]
 simp (disch:=first|assumption|omega|(simp only [List.length_append,List.length_cons,List.length_nil];omega)) only [go_sem]
 exact retC_by (.refl _) (.refl _) ⟨bx,rfl,hbx,rfl⟩
theorem frel_init {n:Nat} {σ:ASt} {w:World} {args:List AV} {vs:List Value} (hr:Reps σ w args vs) (hl:vs.length<=n):FRel n [] σ w (init args) { tmps:=(⟨vs⟩:Array Value)++Array.replicate (n-(⟨vs⟩:Array Value).size) undef,defers := [] }:=by
 refine ⟨by simp;omega,rfl,fun t ht=>?_⟩
 have h1:=hr.getD t
 have h2:((⟨vs⟩:Array Value)++Array.replicate (n-(⟨vs⟩:Array Value).size) undef).getD t undef=vs.getD t undef:=by
  rw [Array.getD_eq_getD_getElem?,List.getD_eq_getElem?_getD,Array.getElem?_append]
  split
  ·simp
  ·rename_i hge
   rw [List.getElem?_eq_none (by simpa using hge)]
   simp only [Array.getElem?_replicate]
   split<;>rfl
 rw [h2]
 exact h1
theorem ck_by {P:Program} {n:Nat} {D:List Deferred} {σ0 σ:ASt} {w0:World} {K:Act->World->Prop} {a:AFr} (h:∀ act w,Sim σ w->FRel n D σ w a act->Le σ0 w0 σ w->K act w):CK P n D σ0 w0 K .normal a σ:=⟨rfl,h⟩
theorem chunk_k {P:Program} {n:Nat} {D:List Deferred} {x y:Code} {ac:ACode} (hx:compC P n x=some ac) (hnd:ac.nd=true) {σ0 σ:ASt} {w0 w:World} {a:AFr} {act:Act} {Q:Exit->Act->World->Prop} (hs:Sim σ w) (hf:FRel n D σ w a act) (hl:Le σ0 w0 σ w)
  (h:∀ K:Act->World->Prop,(∀ act w,y.wp P Q act w->K act w)->ac.wp P (CK P n D σ0 w0 K) a σ):(Code.seq x y).wp P Q act w:=
 chunk_seq hx hnd hs hf hl (h _ fun _ _ h=>h)
theorem OwnR.mach {base base1 σ:ASt} {W:World} {mv:AV} {md:List Nat} {u:Value} (h:OwnR base base1 .i64 mv md) (hs:Sim σ W) (hb:∀ x r,base1 x=some r->σ x=some r) (hu:Rep σ W mv u) :
  ∃ A c,u = .slice A md.length c/\∀ (j z:Nat),md[j]? = some z->∃ b o,A=some ⟨b,o,none⟩/\W.cell? ⟨b,o+j,none⟩=some (.int .i64 z):=by
 rcases h with ⟨rfl,rfl⟩|⟨X,c,R,rfl,h1,h2,h3,h4,h5⟩
 ·cases hu with
  | slN=>exact ⟨none,0,rfl,fun j z hj=>(by cases hj)⟩
  | sl h1 h2 h3 h4 h5=>subst h2;exact ⟨_,_,rfl,fun j z hj=>(by cases hj)⟩
 ·cases hu
  refine ⟨_,_,rfl,fun j z hj=>⟨X,0,rfl,?_⟩⟩
  obtain ⟨vs,hr,hc,_⟩:=hs.objCell (hb _ _ h1)
  have hg:(kv .i64 md++R)[j]? = some (.int .i64 z):=by
   have hjl:=(List.getElem?_eq_some_iff.1 hj).1
   rw [List.getElem?_append_left (by rw [kv_len];exact hjl)]
   exact kv_get (k := .i64) hj
  obtain ⟨v,hv,hvr⟩:=hr.get hg
  cases hvr
  rw [Nat.zero_add]
  exact hc j _ hv
def gvn (ph:Pgs) (md:List Nat) (k:Nat):Pgs:=fun q=>if q∈md.drop k then none else ph q
theorem gvn_len (ph:Pgs) (md:List Nat):gvn ph md md.length=ph:=by
 funext q
 unfold gvn
 rw [List.drop_length,if_neg (by simp)]
theorem gvn_step {ph:Pgs} {md:List Nat} {k z:Nat} (h:md[k]? = some z):pset (gvn ph md (k+1)) z none=gvn ph md k:=by
 funext q
 have hd:md.drop k=z::md.drop (k+1):=by
  obtain ⟨h1,h2⟩:=List.getElem?_eq_some_iff.1 h
  rw [List.drop_eq_getElem_cons h1,h2]
 unfold pset gvn
 rw [hd]
 by_cases hq:q=z
 ·rw [if_pos hq,if_pos (by rw [hq];simp)]
 ·rw [if_neg hq]
  by_cases hm:q∈md.drop (k+1)
  ·rw [if_pos hm,if_pos (List.mem_cons_of_mem _ hm)]
  ·rw [if_neg hm,if_neg]
   intro hc
   exact hm ((List.mem_cons.1 hc).resolve_left hq)
theorem gvn_at {ph:Pgs} {md:List Nat} {k z:Nat} (h:md[k]? = some z) (hn:md.Nodup) (hz:ph z≠none):∃ s,gvn ph md (k+1) z=some s:=by
 unfold gvn
 rw [if_neg]
 ·exact Option.ne_none_iff_exists'.1 hz
 ·intro hc
  obtain ⟨j,hj⟩:=List.getElem?_of_mem hc
  rw [List.getElem?_drop] at hj
  obtain ⟨x1,x2⟩:=List.getElem?_eq_some_iff.1 h
  obtain ⟨y1,y2⟩:=List.getElem?_eq_some_iff.1 hj
  have:=List.pairwise_iff_getElem.1 hn k (k+1+j) x1 y1 (by omega)
  exact this (x2.trans y2.symm)
end Go.A
namespace Go.A
open Go.Proofs Go.RowKit Go.Shelf
attribute [local go_sem] Oper.semAt_some
section
variable {base σ:ASt} {p n:Nat} {most:Int} {old pg:Pgs}
theorem PoolAt.fresh {m:PX} (h:PoolAt base σ p m n pg) {x:Nat} (hx:σ x=none):base x=none/\x≠0:=
 ⟨own_none (σ:=σ) (fun x r hr=>h.at hr) x hx,fun e=>by
  have:=h.at h.ck
  rw [<-e,hx] at this
  cases this⟩
theorem PoolAt.new {m:PX} (h:PoolAt base σ p m n pg) {x:Nat} (r:Role) (hx:σ x=none):PoolAt (base.set x (some r)) (σ.set x (some r)) p m n pg/\∀ y q,base y=some q->(base.set x (some r)) y=some q:=by
 obtain ⟨h1,h2⟩:=h.fresh hx
 refine ⟨h.set (some r) (.inr hx) h2,fun y q hy=>?_⟩
 rw [ASt.set_ne (fun e=>by rw [e,h1] at hy;cases hy)]
 exact hy
theorem rep_ptr {σ:ASt} {w:World} {b o:Nat} {u:Value} (h:Rep σ w (.ptr b o) u):u = .pointer (some ⟨b,o,none⟩):=by cases h;rfl
theorem rep_int {σ:ASt} {w:World} {k:IntKind} {z:Int} {u:Value} (h:Rep σ w (.int k z) u):u = .int k z:=by cases h;rfl
theorem rep_fn1 {σ:ASt} {w:World} {f:Fn} {b:Nat} {u:Value} (h:Rep σ w (.func f [] [.ptr b 0]) u):u = .func f #[] #[.pointer (some ⟨b,0,none⟩)]:=by
 cases h with
 | func h1 h2=>
 cases h1
 cases h2 with
 | cons h1 h2=>
 cases h1
 cases h2
 rfl
theorem cell_lt {W:World} {A:Addr} {v:Value} (h:W.cell? A=some v):A.block<W.heap.size:=by
 obtain ⟨o,ho,_⟩:=cells_of_cell h
 exact (Array.getElem?_eq_some_iff.1 ho).1
theorem OwnR.same {base base1 σ σ':ASt} {W W':World} {mv:AV} {md:List Nat} {u u':Value} {k z:Nat} (h:OwnR base base1 .i64 mv md) (hz:md[k]? = some z) (h1:Rep σ W mv u) (h2:Rep σ' W' mv u'):u'=u:=by
 rcases h with ⟨rfl,rfl⟩|⟨X,c,R,rfl,_⟩
 ·cases hz
 ·cases h1;cases h2;rfl
set_option maxHeartbeats 4000000 in
theorem plundo_ok (h:PoolAt base σ p ⟨most,some old⟩ n pg):ACalls Tryz.prog 21 [.ptr p 0] σ fun v σ'=>v = .int .i64 0/\PoolAt base σ' p ⟨most,none⟩ n old:=by
 intro w vs hs ha
 have hck0:=h.ck
 refine (callsIn_wide (n:=5)).1 ?_
 refine callsIn_of_wp_marks Tryz.func21 rfl trivial ?_ rfl
 refine wpIn_wide.2 ?_
 have hvl:vs.length=1:=by rw [<-ha.length];rfl
 have hf0:=frel_init (n:=63) ha (by omega)
 refine chunk_k (ac:=c21_0) (by kernel_rfl) rfl hs hf0 (.refl _ _) fun K1 hK1=>?_
 simp (disch:=first|assumption|omega|(simp only [List.length_append,List.length_cons,List.length_nil];omega)) only [go_sem]
 refine boxC_by rfl fun bp hbp=>?_
 simp (disch:=first|assumption|omega|(simp only [List.length_append,List.length_cons,List.length_nil];omega)) only [go_sem]
 refine allocC_by fun br hbr=>?_
 obtain ⟨h1,e1⟩:=h.new (.obj [.ptr p 0]) hbp
 obtain ⟨h2,e2⟩:=h1.new (.obj [.int .i64 0]) hbr
 have hb2:((base.set bp (some (.obj [.ptr p 0]))).set br (some (.obj [.int .i64 0]))) bp=some (.obj [.ptr p 0]):=e2 _ _ (ASt.set_same _ _ _)
 have hb3:((base.set bp (some (.obj [.ptr p 0]))).set br (some (.obj [.int .i64 0]))) br=some (.obj [.int .i64 0]):=ASt.set_same _ _ _
 have e3:∀ x r,base x=some r->((base.set bp (some (.obj [.ptr p 0]))).set br (some (.obj [.int .i64 0]))) x=some r:=fun x r hx=>e2 _ _ (e1 _ _ hx)
 generalize (base.set bp (some (.obj [.ptr p 0]))).set br (some (.obj [.int .i64 0]))=base2 at *
 generalize (σ.set bp (some (.obj [.ptr p 0]))).set br (some (.obj [.int .i64 0]))=σ2 at *
 clear h1 e1 e2
 simp (disch:=first|assumption|omega|(simp only [List.length_append,List.length_cons,List.length_nil];omega)) only [go_sem]
 refine ck_by fun act1 w1 hs1 hf1 hl1=>hK1 _ _ ?_
 clear hK1 K1 hf0
 obtain ⟨d,ra,ma,FL,hand,wb,mv,gv,wl,md,gn,ph,base1,hp,hO,hT,hc1,hx1,hn1,hn2,hn3,hEnd⟩:=plend_ok h2
 have hbp2:=h2.at hb2
 have h2m:md.Nodup/\∀ q∈md,ph q≠none:=⟨hT.nd,fun q hq=>(hT.hm q hq).1⟩
 refine chunk_k (ac:=c21_5) (by kernel_rfl) rfl hs1 hf1 hl1 fun K1 hK1=>?_
 simp (disch:=first|assumption|omega|(simp only [List.length_append,List.length_cons,List.length_nil];omega)) only [go_sem,hbp2,hp]
 refine ck_by fun act2 w2 hs2 hf2 hl2=>hK1 _ _ ?_
 clear hK1 K1 hf1 hs1 hl1
 refine chunk_k (ac:=c21_6) (by kernel_rfl) rfl hs2 hf2 hl2 fun K1 hK1=>?_
 simp (disch:=first|assumption|omega|(simp only [List.length_append,List.length_cons,List.length_nil];omega)) only [go_sem,hbp2,hp]
 refine ck_by fun act3 w3 hs3 hf3 hl3=>hK1 _ _ ?_
 clear hK1 K1 hf2 hs2 hl2
 refine chunk_k (ac:=c21_7) (by kernel_rfl) rfl hs3 hf3 hl3 fun K1 hK1=>?_
 simp (disch:=first|assumption|omega|(simp only [List.length_append,List.length_cons,List.length_nil];omega)) only [go_sem,hbp2]
 refine hEnd.mono ?_
 rintro v σ4 ⟨rfl,h4⟩
 simp (disch:=first|assumption|omega|(simp only [List.length_append,List.length_cons,List.length_nil];omega)) only [go_sem]
 refine ck_by fun act4 w4 hs4 hf4 hl4=>hK1 _ _ ?_
 clear hK1 K1 hf3 hs3 hl3 hEnd
 have e4:∀ x r,base x=some r->base1 x=some r:=fun x r hx=>hn3 _ _ (e3 _ _ hx)
 refine chunk_k (ac:=c21_31) (by kernel_rfl) rfl hs4 hf4 hl4 fun K1 hK1=>?_
 refine undo_loop (bp:=bp) (br:=br) (mv:=mv) h4 (hn3 _ _ hb2) hO.hw hn1 (fun k s hk=>?_) (by simp (disch:=first|assumption|omega|(simp only [List.length_append,List.length_cons,List.length_nil];omega)) only [go_sem]) fun a5 σ5 ph5 ha5 h5 hk5 hu5=>?_
 ·obtain ⟨q,q1,q2,q3,q4,q5⟩:=hT.hw k s hk
  obtain ⟨s0,hs0⟩:=Option.ne_none_iff_exists'.1 q2
  exact ⟨q,q1,(h4.rng hs0).2,q2,q5⟩
 refine ck_by fun act5 w5 hs5 hf5 hl5=>hK1 _ _ ?_
 clear hK1 K1 hf4 hs4 hl4
 have hmv:mv.isAny=false/\mv.cells = [mv]:=by
  rcases hO.hm with ⟨rfl,_⟩|⟨X,c,R,rfl,_⟩<;>exact ⟨rfl,rfl⟩
 have hB:=xback_ok (σ:=σ5) hmv.1 hmv.2
 refine wp_seq ?_
 refine chunk_k (ac:=c21_32) (by kernel_rfl) rfl hs5 hf5 hl5 fun K1 hK1=>?_
 simp (disch:=first|assumption|omega|(simp only [List.length_append,List.length_cons,List.length_nil];omega)) only [go_sem,ha5]
 refine hB.mono ?_
 rintro v σ6 ⟨bs,rfl,hbs,rfl⟩
 simp (disch:=first|assumption|omega|(simp only [List.length_append,List.length_cons,List.length_nil];omega)) only [go_sem]
 refine ck_by fun act6 w6 hs6 hf6 hl6=>hK1 _ _ ?_
 clear hK1 K1 hf5 hs5 hl5 hB
 obtain ⟨h6,e6⟩:=h5.new (.obj [mv]) hbs
 have hb6:(base1.set bs (some (.obj [mv]))) bs=some (.obj [mv]):=ASt.set_same _ _ _
 have e7:∀ x r,base x=some r->(base1.set bs (some (.obj [mv]))) x=some r:=fun x r hx=>e6 _ _ (e4 _ _ hx)
 have hbp6:=e6 _ _ (hn3 _ _ hb2)
 have hbr6:=e6 _ _ (hn3 _ _ hb3)
 have hO6:OwnR base2 (base1.set bs (some (.obj [mv]))) .i64 mv md:=hO.hm.mono fun X r _ hr=>e6 _ _ hr
 generalize base1.set bs (some (.obj [mv]))=B6 at *
 generalize σ5.set bs (some (.obj [mv]))=σ6 at *
 obtain ⟨T,ds⟩:=act6
 obtain rfl:ds = []:=hf6.defers
 obtain ⟨g,hTg,hg⟩:=lit63 (T:=T) hf6.size
 have r54:=hf6.rep 54 (by decide)
 have r1:=hf6.rep 1 (by decide)
 have r2:=hf6.rep 2 (by decide)
 rw [hg] at r54 r1 r2
 have g54:g 54 = .func (.func 140) #[] #[.pointer (some ⟨bs,0,none⟩)]:=rep_fn1 (σ:=σ6) (w:=w6) r54
 have g1:g 1 = .pointer (some ⟨bp,0,none⟩):=rep_ptr (σ:=σ6) (w:=w6) (by rw [<-ha5.1];exact r1)
 have g2:g 2 = .pointer (some ⟨br,0,none⟩):=rep_ptr (σ:=σ6) (w:=w6) (by rw [<-ha5.2.1];exact r2)
 rw [g54,g1,g2] at hTg
 subst hTg
 clear hg r54 r1 r2 g54 g1 g2 hf6
 have eg:∀ args W,(callFunc 140 args).run Tryz.prog W = .ok (.enter 140 args) W:=enters_of Tryz.func140 (by kernel_rfl) rfl
 refine (wpIn_wide (n:=5)).1 ?_
 gi_wp2
 have hmd:md.length<=100000:=by omega
 have hph5:∀ z,z∈md->ph5 z≠none:=fun z hz=>by
  rw [hu5 z]
  ·exact h2m.2 z hz
  ·cases hc:findM wl (z:Int) with
   | none=>rfl
   | some s=>
     obtain ⟨q,q1,q2,q3,_⟩:=hT.hw _ _ hc
     obtain rfl:z=q:=by omega
     exact absurd hz q3
 obtain ⟨us,hus,huc,_⟩:=hs6.objCell (h6.at hb6)
 obtain ⟨u,rfl⟩:∃ u,us = [u]:=by
  cases hus with
  | cons h1 h2=>cases h2;exact ⟨_,rfl⟩
 have hu:Rep σ6 w6 mv u:=by cases hus with|cons h1 h2=>exact h1
 have hcu:w6.cell? ⟨bs,0,none⟩=some u:=huc 0 u rfl
 obtain ⟨A,c,rfl,hrow⟩:=hO6.mach hs6 (fun x r=>h6.at) hu
 refine range_own2 (by omega) (gf:=140) (lb := #[.pointer (some ⟨bs,0,none⟩)]) rfl eg
  (fun W=>∃ σ7,Sim σ7 W/\Le σ w σ7 W/\PoolAt B6 σ7 p ⟨most,none⟩ n (gvn ph5 md 0)/\W.heap[w6.heap.size]? = some (.deferred (some []))/\σ7 w6.heap.size=none/\σ7 (w6.heap.size+1)=none) ?hit ?done
 case hit=>
  intro fn rec hrec
  obtain ⟨we,hwe⟩:∃ we,(w6.alloc (.deferred (some []))).alloc (.loop (rec .ready none))=we:=⟨_,rfl⟩
  rw [hwe]
  have hext:Ext w6 we:=hwe▸Ext.alloc (Ext.alloc (Ext.refl w6) _) _
  have hsz:we.heap.size=w6.heap.size+2:=by rw [<-hwe];simp
  have hD0:we.heap[w6.heap.size]? = some (.deferred (some [])):=by
   rw [<-hwe]
   exact (Below.heap_alloc _ _ _ (by simp)).trans (World.alloc_heap_new w6 _)
  have hL0:we.heap[w6.heap.size+1]? = some (.loop (rec .ready none)):=by
   rw [<-hwe]
   have:=World.alloc_heap_new (w6.alloc (.deferred (some []))) (.loop (rec .ready none))
   rw [World.size_alloc] at this
   exact this
  obtain ⟨J,hJ⟩:∃ J:Nat->World->Prop,Hid (J=fun k W=>W.cell? ⟨bs,0,none⟩=some (.slice A md.length c)/\(∀ (j z:Nat),md[j]? = some z->∃ b o,A=some ⟨b,o,none⟩/\W.cell? ⟨b,o+j,none⟩=some (.int .i64 z)) ∧
   ∃ σ7,Sim σ7 W/\Le σ w σ7 W/\PoolAt B6 σ7 p ⟨most,none⟩ n (gvn ph5 md k)/\W.heap[w6.heap.size]? = some (.deferred (some []))/\W.heap[w6.heap.size+1]? = some (.loop (rec .ready none))/\σ7 w6.heap.size=none/\σ7 (w6.heap.size+1)=none):=⟨_,rfl⟩
  refine (back_in 4 (by omega) (w6.heap.size+1) bs A c md hmd J ?_ ?_ we ?_).mono ?_
  ·intro k W hjw
   rw [hJ.out] at hjw
   exact ⟨hjw.1,hjw.2.1⟩
  ·intro k z W hjw hz
   rw [hJ.out] at hjw
   obtain ⟨j1,j2,σ7,hs7,hl7,hP7,hD,hL,hd1,hd2⟩:=hjw
   have hy:=run_yield (P:=Tryz.prog) (args := #[.int .i64 k,.int .i64 z]) hL (by rw [hrec];rfl)
   rw [hrec] at hy
   obtain ⟨R,hRe⟩:∃ R:Ending->World->Prop,Hid (R=fun e W'=>e = .returned (.bool true)/\J k W'):=⟨_,rfl⟩
   refine YieldAt.mono (R:=R) ?_ (fun e W' hr=>by rw [hRe.out] at hr;exact hr)
   have hrd:(rec .ready none).state = .ready:=by rw [hrec]
   have hre:rec .ready none = { { rec .ready none with state := .busy } with state:=if (none:Option Code).isNone then .ready else .done,pending:=none }:=by rw [hrec];rfl
   have HR:Hid (rec=fun st pe=>_):=hrec
   clear hrec
   refine ⟨fn,_,_,_,hy,roundIn_of_wpIn trivial ?_⟩
   clear hy
   have HR2:Hid (rec .ready none = { { rec .ready none with state := .busy } with state:=if (none:Option Code).isNone then .ready else .done,pending:=none }):=hre
   clear hre
   gi_wp2
   refine ⟨_,run_beginRound hL hrd,?_⟩
   have hsb:=hs7.sw (o' := .loop { rec .ready none with state := .busy }) hL rfl rfl hd2
   have hlb:=hl7.sw (o' := .loop { rec .ready none with state := .busy }) hL rfl rfl (by have:=hl6.size;omega)
   have hLt:w6.heap.size+1<W.heap.size:=(Array.getElem?_eq_some_iff.1 hL).1
   have hD2:(W.putObj (w6.heap.size+1) (.loop { rec .ready none with state := .busy })).heap[w6.heap.size]? = some (.deferred (some [])):=(World.putObj_heap_other (by omega)).trans hD
   have hL2:(W.putObj (w6.heap.size+1) (.loop { rec .ready none with state := .busy })).heap[w6.heap.size+1]? = some (.loop { rec .ready none with state := .busy }):=World.putObj_heap_same hLt
   obtain ⟨W2,hW2⟩:∃ W2,W.putObj (w6.heap.size+1) (.loop { rec .ready none with state := .busy })=W2:=⟨_,rfl⟩
   rw [hW2] at hsb hlb hD2 hL2 ⊢
   have hLt2:w6.heap.size+1<W2.heap.size:=(Array.getElem?_eq_some_iff.1 hL2).1
   obtain ⟨s0,hs0⟩:=gvn_at (ph:=ph5) hz h2m.1 (hph5 z (List.mem_of_getElem? hz))
   have hG:=plgive_ok hP7 hs0
   rw [gvn_step hz] at hG
   have hGw:=hG W2 [.pointer (some ⟨p,0,none⟩),.int .i64 z] hsb (.cons (.ptr _ _) (.cons (.int _ _) .nil))
   have hcp:W2.cell? ⟨bp,0,none⟩=some (.pointer (some ⟨p,0,none⟩)):=by
    obtain ⟨vs,hv,hc,_⟩:=hsb.objCell (hP7.at hbp6)
    cases hv with
    | cons h1 h2=>cases h2;rw [hc 0 _ rfl,rep_ptr h1]
   have fin:∀ (σ8:ASt) (W3:World),PoolAt B6 σ8 p ⟨most,none⟩ n (gvn ph5 md k)->Le σ7 W2 σ8 W3->Sim σ8 W3 →
     ∃ u W4,(Instr.endRound (w6.heap.size+1) none).run Tryz.prog W3 = .ok u W4/\R (.returned u) W4:=by
    intro σ8 W3 hP8 hl8 hs8
    obtain ⟨k1,k2⟩:=hl8.keep _ hLt2 hd2
    obtain ⟨k3,k4⟩:=hl8.keep w6.heap.size (by omega) hd1
    have hL3:=k2.trans hL2
    have hD3:=k4.trans hD2
    refine ⟨_,_,run_endRound (P:=Tryz.prog) none hL3,?_⟩
    rw [hRe.out,hJ.out]
    have hs9:=hs8.sw (o' := .loop { { rec .ready none with state := .busy } with state:=if (none:Option Code).isNone then .ready else .done,pending:=none }) hL3 rfl rfl k1
    have hl9:=(hlb.trans hl8).sw (o' := .loop { { rec .ready none with state := .busy } with state:=if (none:Option Code).isNone then .ready else .done,pending:=none }) hL3 rfl rfl (by have:=hl6.size;omega)
    have hLt3:w6.heap.size+1<W3.heap.size:=(Array.getElem?_eq_some_iff.1 hL3).1
    have hD4:(W3.putObj (w6.heap.size+1) (.loop { { rec .ready none with state := .busy } with state:=if (none:Option Code).isNone then .ready else .done,pending:=none })).heap[w6.heap.size]? = some (.deferred (some [])):=(World.putObj_heap_other (by omega)).trans hD3
    have hL4:(W3.putObj (w6.heap.size+1) (.loop { { rec .ready none with state := .busy } with state:=if (none:Option Code).isNone then .ready else .done,pending:=none })).heap[w6.heap.size+1]? = some (.loop (rec .ready none)):=by
     rw [World.putObj_heap_same hLt3,← HR2.out]
    generalize W3.putObj (w6.heap.size+1) (.loop { { rec .ready none with state := .busy } with state:=if (none:Option Code).isNone then .ready else .done,pending:=none })=W4 at *
    obtain ⟨us,hus,huc,_⟩:=hs9.objCell (hP8.at hb6)
    obtain ⟨u,rfl⟩:∃ u,us = [u]:=by
     cases hus with
     | cons h1 h2=>cases h2;exact ⟨_,rfl⟩
    have hu9:Rep σ8 W4 mv u:=by cases hus with|cons h1 h2=>exact h1
    obtain rfl:=hO6.same hz hu hu9
    obtain ⟨A',c',hA,hrow'⟩:=hO6.mach hs9 (fun x r=>hP8.at) hu9
    injection hA with a1 a2 a3
    subst a1
    exact ⟨rfl,huc 0 _ rfl,hrow',σ8,hs9,hl9,hP8,hD4,hL4,k3,k1⟩
   have FIN:Hid _:=fin
   clear fin
   gi_wp2_with (refine ⟨trivial,?_⟩;gi_at_call 44;refine (callsIn_wide.2 hGw).mono ?_;rintro e w' ⟨u,r,σ8,rfl,⟨rfl,hP8⟩,hl8,hs8,hu8⟩;obtain rfl:=rep_int hu8)
   exact FIN.out _ _ hP8 hl8 hs8
  ·rw [hJ.out]
   refine ⟨?_,fun j z hz=>?_,σ6,hs6.ext hext,hl6.trans (ext_le hext),by rw [gvn_len];exact h6,hD0,hL0,hs6.fresh (Nat.le_refl _),hs6.fresh (by omega)⟩
   ·exact (hext.below.cell (p:=⟨bs,0,none⟩) (cell_lt hcu)).trans hcu
   ·obtain ⟨b,o,hA,hc⟩:=hrow j z hz
    exact ⟨b,o,hA,(hext.below.cell (p:=⟨b,o+j,none⟩) (cell_lt hc)).trans hc⟩
  ·rintro e W ⟨he,hjw⟩
   rw [hJ.out] at hjw
   obtain ⟨j1,j2,σ7,hs7,hl7,hP7,hD,hL,hd1,hd2⟩:=hjw
   exact ⟨he,⟨σ7,hs7,hl7,hP7,hD,hd1,hd2⟩,hL⟩
 case done=>
  rintro W o o' ⟨σ7,hs7,hl7,hP7,hD,hd1,hd2⟩ hl ho ho'
  have hs8:=hs7.sw hl ho ho' hd2
  have hl8:=hl7.sw hl ho ho' (by have:=hl6.size;omega)
  have hD2:(W.putObj (w6.heap.size+1) o').heap[w6.heap.size]? = some (.deferred (some [])):=(World.putObj_heap_other (by omega)).trans hD
  generalize W.putObj (w6.heap.size+1) o'=W2 at *
  change (Code.seq _ _).wp Tryz.prog _ _ W2
  have hD7:σ7 w6.heap.size=none:=hd1
  refine chunk_k (D := [{ target := .collected w6.heap.size,args := #[] }]) (a:=fun t=>if t=2 then .ptr br 0 else .any) (σ0:=σ7) (w0:=W2) (n:=63) (ac:=c21_35) (by kernel_rfl) rfl hs8 ⟨rfl,rfl,fun t ht=>?_⟩ (.refl _ _) fun K1 hK1=>?_
  ·show Rep σ7 W2 (if t=2 then .ptr br 0 else .any) _
   split
   ·rename_i e
    subst e
    exact .ptr br 0
   ·exact .any _
  have hbr7:=hP7.at hbr6
  have hgo:gvn ph5 md 0=old:=hT.undo (fun q s hq hs=>?_) (fun q hq hs=>?_) fun q hq=>?_
  rotate_left
  ·show (if q∈md.drop 0 then none else ph5 q)=some s
   rw [List.drop_zero,if_neg hq]
   exact hk5 q s hs
  ·show (if q∈md.drop 0 then none else ph5 q)=ph q
   rw [List.drop_zero,if_neg hq]
   exact hu5 q hs
  ·show (if q∈md.drop 0 then none else ph5 q)=none
   rw [List.drop_zero,if_pos hq]
  rw [hgo] at hP7
  have h8:PoolAt base σ7 p ⟨most,none⟩ n old:=hP7.less e7 hck0
  have hst:σ7.set br (some (.obj [.int .i64 0]))=σ7:=by
   funext x
   by_cases hx:x=br
   ·rw [hx,ASt.set_same,hbr7]
   ·rw [ASt.set_ne hx]
  have a2:(fun t=>if t=2 then AV.ptr br 0 else .any) 2 = .ptr br 0:=rfl
  obtain ⟨a9,ha9⟩:∃ a9:AFr,a9=fun t=>if t=2 then AV.ptr br 0 else .any:=⟨_,rfl⟩
  rw [<-ha9] at a2 ⊢
  simp (disch:=first|assumption|omega|(simp only [List.length_append,List.length_cons,List.length_nil];omega)) only [go_sem,a2,hbr7,hst]
  refine ck_by fun act8 w8 hs9 hf9 hl9=>hK1 _ _ ?_
  refine wp_ret ?_
  show LeavesInM _ _ _ _ act8.tmps _ act8.defers .returning w8
  have hLt:w6.heap.size<W2.heap.size:=(Array.getElem?_eq_some_iff.1 hD2).1
  have hD8:w8.heap[w6.heap.size]? = some (.deferred (some [])):=(hl9.keep _ hLt hd1).2.trans hD2
  have hdf:act8.defers = [{ target := .collected w6.heap.size,args := #[] }]:=hf9.defers
  rw [hdf]
  refine ⟨by simp,.inl ⟨_,_,rfl,run_takeDeferred hD8,?_⟩⟩
  have hs10:=hs9.sw (o' := .deferred none) hD8 rfl rfl hd1
  have hl10:=(hl8.trans hl9).sw (o' := .deferred none) hD8 rfl rfl hl6.size
  have hf10:FRel 63 [{ target := .collected w6.heap.size,args := #[] }] σ7 (w8.putObj w6.heap.size (.deferred none)) a9 act8:=⟨hf9.size,hf9.defers,fun t ht=>(hf9.rep t ht).sw (Sw.put hD8 rfl rfl)⟩
  generalize w8.putObj w6.heap.size (.deferred none)=w9 at *
  have hev:RV.evs a9 σ7 [.c 2 none]=some [.int .i64 0]:=by
   simp [RV.evs,RV.ev,known,a2,hbr7,fieldVal]
  obtain ⟨us,h11,h12⟩:=run_results hf10 hs10 (rvs:=Tryz.f21.results.toList) (by kernel_rfl) hev
  obtain ⟨u,rfl⟩:∃ u,us = [u]:=by
   cases h12 with
   | cons h1 h2=>cases h2;exact ⟨_,rfl⟩
  have hu12:Rep σ7 w9 (.int .i64 0) u:=by cases h12 with|cons h1 h2=>exact h1
  have hres:(results Tryz.f21 act8.tmps).run Tryz.prog w9 = .ok u w9:=by
   unfold results
   rw [Array.mapM_eq_mapM_toList]
   rw [Sem.run_bind]
   simp only [Functor.map]
   rw [Sem.run_bind']
   exact congrArg (fun r:Result (List Value)=>(r.andThen fun a w'=>Sem.run Tryz.prog ((Sem.pure ∘ List.toArray) a) w').andThen fun a w'=>Sem.run Tryz.prog (pure (if h:a.size=1 then a[0] else Value.tuple a)) w') h11
  exact ⟨_,hres,u,_,σ7,rfl,⟨rfl,h8⟩,hl10,hs10,hu12⟩
end
end Go.A
namespace Go.A
open Go.Proofs
def resAV (o:Option Int):AV := .tuple [.int .i64 (o.getD 0),.bool o.isSome]
theorem made_ok (m:Bool) (lo:Nat) (h:lo<18446744073709551616):Pure Tryz.prog 84 [.bool m,.int .u64 0,.int .u64 lo] (resAV (madeP m lo)):=by
 intro σ
 refine a84 (by simp) ?_
 unfold madeP
 by_cases hm:lo<=999999999999999999
 ·have g1:¬ (999999999999999999:Int)<lo:=by omega
  have e1:IntKind.i64.wrap (lo:Int)=lo:=by rw [IntKind.wrap_i64];omega
  have e2:IntKind.i64.wrap (-(lo:Int)) = -lo:=by rw [IntKind.wrap_i64];omega
  rw [if_pos hm]
  cases m
  ·simp (disch:=first|assumption|omega|(simp only [List.length_append,List.length_cons,List.length_nil];omega)) only [go_sem,g1,e1,e2]
   exact retC_by (by repeat' (first|exact Drop.refl _|with_reducible refine Drop.off ?_ (by assumption))) (.refl _) ⟨rfl,rfl⟩
  ·simp (disch:=first|assumption|omega|(simp only [List.length_append,List.length_cons,List.length_nil];omega)) only [go_sem,g1,e1,e2]
   refine retC_by (by repeat' (first|exact Drop.refl _|with_reducible refine Drop.off ?_ (by assumption))) (.refl _) ⟨?_,rfl⟩
   rw [show (0:Int)-lo = -lo by omega]
   rfl
 ·have g1:(999999999999999999:Int)<lo:=by omega
  rw [if_neg hm]
  simp (disch:=first|assumption|omega|(simp only [List.length_append,List.length_cons,List.length_nil];omega)) only [go_sem,g1]
  exact retC_by (by repeat' (first|exact Drop.refl _|with_reducible refine Drop.off ?_ (by assumption))) (.refl _) ⟨rfl,rfl⟩
end Go.A
namespace Go.A
open Go.Proofs
theorem prefix_minus (s:List UInt8):Lib.hasPrefix s [45]=decide (s.head? = some 45):=by
 unfold Lib.hasPrefix
 cases s with
 | nil=>rfl
 | cons c l=>
   simp only [List.isPrefixOf,Bool.and_true,List.head?_cons,Option.some.injEq]
   by_cases h:c=45
   ·subst h;rfl
   ·have h1:(45==c)=false:=by simpa using fun e=>h e.symm
    rw [h1];simp [h]
theorem trim_minus (s:List UInt8):Lib.trimPrefix s [45]=if s.head? = some 45 then s.drop 1 else s:=by
 unfold Lib.trimPrefix
 rw [prefix_minus]
 by_cases h:s.head? = some 45
 ·simp [h]
 ·simp [h]
theorem cut_len (l:List UInt8) (c:UInt8):(Lib.cut l [c]).1.length+(Lib.cut l [c]).2.1.length<=l.length:=by
 unfold Lib.cut
 split
 ·have:=Lib.index_room l [c] (by assumption)
  simp at this ⊢
  omega
 ·simp
set_option maxHeartbeats 1000000 in
theorem dparse_ok (s:List UInt8) (hs:s.length<=100000):Pure Tryz.prog 27 [.str s] (resAV (parseD s)):=by
 intro σ
 have hP:=cutPrefix_ok s [45]
 rw [prefix_minus,trim_minus] at hP
 obtain ⟨R,hR⟩:∃ R,parseD s=R:=⟨_,rfl⟩
 rw [hR]
 unfold parseD at hR
 dsimp only at hR
 generalize hm:decide (s.head? = some 45)=minus at *
 have hbl:(if s.head? = some 45 then s.drop 1 else s).length<=100000:=by
  split
  ·rw [List.length_drop];omega
  ·exact hs
 generalize (if s.head? = some 45 then s.drop 1 else s)=body at *
 have hC:=cutc_ok body 46 (by omega)
 have hCl:=cut_len body 46
 have hnf:(Lib.cut body [46]).2.2=false->(Lib.cut body [46]).2.1 = []:=by
  unfold Lib.cut
  split<;>simp
 generalize (Lib.cut body [46]).1=whole at *
 generalize (Lib.cut body [46]).2.1=part at *
 generalize (Lib.cut body [46]).2.2=dot at *
 unfold parseQ at hR
 obtain ⟨F,hF⟩:∃ F,F=ACode.wp Tryz.prog c27_32:=⟨_,rfl⟩
 have fin:∀ (a:AFr),part.length<=4->(accP 0 (whole++part++List.replicate (4-part.length) 48)).bind (madeP minus)=R->(a 5 = .bool minus/\a 6 = .str whole/\a 7 = .str part)->F (RetQ [.t 2,.t 3] fun v σ'=>v=resAV R/\σ'=σ) a σ:=by
  intro a hp4 hacc hf
  rw [hF]
  have hl2:whole.length+part.length<=9223372036854775807:=by omega
  have g4:(part.length:Int)<=4:=by omega
  have e0:([48,48,48,48]:List UInt8).drop part.length=List.replicate (4-part.length) 48:=by
   have:part.length=0\/part.length=1\/part.length=2\/part.length=3\/part.length=4:=by omega
   rcases this with h|h|h|h|h<;>rw [h]<;>rfl
  have e1:binS .add (whole++part) (List.replicate (4-part.length) 48)=some (.str (whole++part++List.replicate (4-part.length) 48)):=binS_add (by simp;omega)
  obtain ⟨M,hM⟩:∃ M,whole++part++List.replicate (4-part.length) 48=M:=⟨_,rfl⟩
  rw [hM] at hacc e1
  have hMl:M.length<=1000000:=by rw [<-hM];simp;omega
  simp (disch:=first|assumption|omega|(simp only [List.length_append,List.length_cons,List.length_nil];omega)) only [go_sem,hf,hl2,g4,e0,e1]
  refine s2b_shr ?_
  simp (disch:=first|assumption|omega|(simp only [List.length_append,List.length_cons,List.length_nil];omega)) only [go_sem,hf]
  refine wp_loop_on (fun (i:Nat) a σ'=>i<=M.length/\(∃ n:Nat,n<=999999999999999999/\accP 0 M=accP n (M.drop i)/\a 9 = .int .u64 n)/\(a 5 = .bool minus/\a 44 = .sl .shr (bytesAV M)/\a 45 = .int .i64 M.length/\a 46 = .int .i64 i)/\σ'=σ) (fun i=>M.length-i) 0 ⟨Nat.zero_le _,⟨0,by omega,rfl,?_⟩,?_,rfl⟩ ?_
  ·simp (disch:=first|assumption|omega|(simp only [List.length_append,List.length_cons,List.length_nil];omega)) only [go_sem,hf]
  ·simp (disch:=first|assumption|omega|(simp only [List.length_append,List.length_cons,List.length_nil];omega)) only [go_sem,hf]
  rintro i a σ1 ⟨hi,⟨n,hn,hac,hf9⟩,hf,rfl⟩
  rw [hac] at hacc
  by_cases hlt:i<M.length
  ·have hidx : M[i]? = some (M[i]'hlt) := List.getElem?_eq_getElem hlt
   rw [List.drop_eq_getElem_cons hlt] at hac hacc
   obtain ⟨c, hc⟩ : ∃ c, M[i]'hlt = c := ⟨_, rfl⟩
   rw [hc] at hidx hac hacc
   have hlt':(i:Int)<M.length:=by omega
   have hcb:c.toNat<256:=c.toNat_lt
   rw [accP] at hac hacc
   by_cases h1:c.toNat<48
   ·have h1':(c.toNat:Int)<48:=by omega
    rw [if_pos (by omega)] at hacc
    subst hacc
    simp (disch:=first|assumption|omega|(simp only [List.length_append,List.length_cons,List.length_nil];omega)) only [go_sem,hf,hf9,hlt',hidx,h1']
    exact retC_by (by repeat' (first|exact Drop.refl _|with_reducible refine Drop.off ?_ (by assumption))) (.refl _) ⟨rfl,rfl⟩
   have h1':¬ (c.toNat:Int)<48:=by omega
   by_cases h2:57<c.toNat
   ·have h2':(57:Int)<c.toNat:=by omega
    rw [if_pos (by omega)] at hacc
    subst hacc
    simp (disch:=first|assumption|omega|(simp only [List.length_append,List.length_cons,List.length_nil];omega)) only [go_sem,hf,hf9,hlt',hidx,h1',h2']
    exact retC_by (by repeat' (first|exact Drop.refl _|with_reducible refine Drop.off ?_ (by assumption))) (.refl _) ⟨rfl,rfl⟩
   have h2':¬ (57:Int)<c.toNat:=by omega
   by_cases h3:99999999999999999<n
   ·have h3':(99999999999999999:Int)<n:=by omega
    rw [if_pos (by omega)] at hacc
    subst hacc
    simp (disch:=first|assumption|omega|(simp only [List.length_append,List.length_cons,List.length_nil];omega)) only [go_sem,hf,hf9,hlt',hidx,h1',h2',h3']
    exact retC_by (by repeat' (first|exact Drop.refl _|with_reducible refine Drop.off ?_ (by assumption))) (.refl _) ⟨rfl,rfl⟩
   have h3':¬ (99999999999999999:Int)<n:=by omega
   rw [if_neg (by omega)] at hac hacc
   obtain ⟨n2,hn2⟩:∃ n2:Nat,10*n+(c.toNat-48)=n2:=⟨_,rfl⟩
   rw [hn2] at hac hacc
   have e2:10*(n:Int)+((c.toNat:Int)-48)=n2:=by omega
   simp (disch:=first|assumption|omega|(simp only [List.length_append,List.length_cons,List.length_nil];omega)) only [go_sem,hf,hf9,hlt',hidx,h1',h2',h3',e2]
   exact ⟨i+1,by omega,by omega,⟨n2,by omega,hac,rfl⟩,rfl⟩
  ·have hlt':¬ (i:Int)<M.length:=by omega
   rw [List.drop_eq_nil_of_le (by omega),accP,Option.bind_some] at hacc
   subst hacc
   have hMd:=made_ok minus n (by omega)
   simp (disch:=first|assumption|omega|(simp only [List.length_append,List.length_cons,List.length_nil];omega)) only [go_sem,hf,hf9,hlt']
   refine hMd.use ?_
   simp only [resAV]
   simp (disch:=first|assumption|omega|(simp only [List.length_append,List.length_cons,List.length_nil];omega)) only [go_sem]
   exact retC_by (by repeat' (first|exact Drop.refl _|with_reducible refine Drop.off ?_ (by assumption))) (.refl _) ⟨rfl,rfl⟩
 refine a27 (by simp) ?_
 simp (disch:=first|assumption|omega|(simp only [List.length_append,List.length_cons,List.length_nil];omega)) only [go_sem,←hF]
 refine hP.use ?_
 simp (disch:=first|assumption|omega|(simp only [List.length_append,List.length_cons,List.length_nil];omega)) only [go_sem,←hF]
 refine hC.use ?_
 by_cases hw:whole = []
 ·subst hw
  rw [if_pos (.inl rfl)] at hR
  subst hR
  simp (disch:=first|assumption|omega|(simp only [List.length_append,List.length_cons,List.length_nil];omega)) only [go_sem,←hF]
  exact retC_by (by repeat' (first|exact Drop.refl _|with_reducible refine Drop.off ?_ (by assumption))) (.refl _) ⟨rfl,rfl⟩
 cases dot with
 | false=>
   have hp:=hnf rfl
   subst hp
   rw [if_neg (by rintro (h|⟨h,_⟩)<;>contradiction)] at hR
   simp (disch:=first|assumption|omega|(simp only [List.length_append,List.length_cons,List.length_nil];omega)) only [go_sem,hw,←hF]
   refine fin _ (by simp) hR ?_
   simp (disch:=first|assumption|omega|(simp only [List.length_append,List.length_cons,List.length_nil];omega)) only [go_sem]
 | true=>
   by_cases hp:part = []
   ·subst hp
    rw [if_pos (.inr ⟨rfl,.inl rfl⟩)] at hR
    subst hR
    simp (disch:=first|assumption|omega|(simp only [List.length_append,List.length_cons,List.length_nil];omega)) only [go_sem,hw,←hF]
    exact retC_by (by repeat' (first|exact Drop.refl _|with_reducible refine Drop.off ?_ (by assumption))) (.refl _) ⟨rfl,rfl⟩
   by_cases h4:4<part.length
   ·have h4':(4:Int)<part.length:=by omega
    rw [if_pos (.inr ⟨rfl,.inr h4⟩)] at hR
    subst hR
    simp (disch:=first|assumption|omega|(simp only [List.length_append,List.length_cons,List.length_nil];omega)) only [go_sem,hw,hp,h4',←hF]
    exact retC_by (by repeat' (first|exact Drop.refl _|with_reducible refine Drop.off ?_ (by assumption))) (.refl _) ⟨rfl,rfl⟩
   ·have h4':¬ (4:Int)<part.length:=by omega
    rw [if_neg (by rintro (h|⟨_,h|h⟩)<;>contradiction)] at hR
    simp (disch:=first|assumption|omega|(simp only [List.length_append,List.length_cons,List.length_nil];omega)) only [go_sem,hw,hp,h4',←hF]
    refine fin _ (by omega) hR ?_
    simp (disch:=first|assumption|omega|(simp only [List.length_append,List.length_cons,List.length_nil];omega)) only [go_sem]
theorem lcut_ok (s:List UInt8) (n:Nat):Pure Tryz.prog 11 [.str s,.int .i64 n] (.str (s.take n)):=by
 intro σ
 refine a11 (by simp) ?_
 by_cases h:n<s.length
 ·have h':(n:Int)<s.length:=by omega
  have g0:(0:Int)<=n:=by omega
  have g1:(n:Int)<=s.length:=by omega
  simp (disch:=first|assumption|omega|(simp only [List.length_append,List.length_cons,List.length_nil];omega)) only [go_sem,h',g0,g1]
  exact retC_by (by repeat' (first|exact Drop.refl _|with_reducible refine Drop.off ?_ (by assumption))) (.refl _) ⟨rfl,rfl⟩
 ·have h':¬ (n:Int)<s.length:=by omega
  rw [List.take_of_length_le (by omega)]
  simp (disch:=first|assumption|omega|(simp only [List.length_append,List.length_cons,List.length_nil];omega)) only [go_sem,h']
  exact retC_by (by repeat' (first|exact Drop.refl _|with_reducible refine Drop.off ?_ (by assumption))) (.refl _) ⟨rfl,rfl⟩
end Go.A
namespace Go.A
open Go.Proofs
/-! 4: tabular/tabulartop.live -/
def c4_17:ACode := .seq (.ops [ oq 0 (.mv (.v (.bool false)))]) (.seq (.ops [ oe 8 (.call 6 [(.v (.int .i64 3))]),oq 1 (.mv (.t 8))]) (.seq (.seq (.ops [ oq 9 (.mv (.t 1)),oq 10 (.eq .p false (.t 9) (.v .nilp))]) (.cond (.t 10) (.seq (.ops [ oq 0 (.mv (.v (.bool false)))]) .ret) .skip)) (.seq (.ops [ oq 12 (.mv (.t 1)),oe 13 (.call 24 [(.t 12)]),oq 11 (.mv (.t 13)),oq 14 (.ext 0 (.t 11)),oq 15 (.ext 1 (.t 11)),oq 2 (.mv (.t 14)),oq 3 (.mv (.t 15))]) (.seq (.ops [ oe 17 (.call 26 [(.v (.str [97,98]))]),oe 18 (.call 25 [(.t 17)]),oq 16 (.mv (.t 18)),oq 19 (.ext 0 (.t 16)),oq 20 (.ext 1 (.t 16)),oq 4 (.mv (.t 19)),oq 5 (.mv (.t 20))]) (.seq (.ops [ oe 22 (.call 27 [(.v (.str [45,50,46,53]))]),oq 21 (.mv (.t 22)),oq 23 (.ext 0 (.t 21)),oq 24 (.ext 1 (.t 21)),oq 6 (.mv (.t 23)),oq 7 (.mv (.t 24))]) (.seq (.ops [ oq 25 (.mv (.t 3)),oq 26 (.bin .eql (.t 25) (.v (.int .i64 0))),oq 27 (.mv (.t 26)),⟨some 28,some (27,true),.q (.mv (.t 2)),[]⟩,⟨some 29,some (27,true),.q (.bin .eql (.t 28) (.v (.int .i64 1))),[]⟩,oq 30 (.pick (.t 27) (.t 29) (.v (.bool false))),oq 31 (.mv (.t 30)),⟨some 32,some (31,true),.q (.mv (.t 5)),[]⟩,oq 33 (.pick (.t 31) (.t 32) (.v (.bool false))),oq 34 (.mv (.t 33)),⟨some 35,some (34,true),.q (.mv (.t 4)),[]⟩,⟨some 36,some (34,true),.q (.bin .eql (.t 35) (.v (.str [97,98]))),[]⟩,oq 37 (.pick (.t 34) (.t 36) (.v (.bool false))),oq 38 (.mv (.t 37)),⟨some 39,some (38,true),.q (.mv (.t 7)),[]⟩,oq 40 (.pick (.t 38) (.t 39) (.v (.bool false))),oq 41 (.mv (.t 40)),⟨some 42,some (41,true),.q (.mv (.t 6)),[]⟩,⟨some 43,some (41,true),.q (.bin .eql (.t 42) (.v (.int .i64 (-25000)))),[]⟩,oq 44 (.pick (.t 41) (.t 43) (.v (.bool false))),oq 0 (.mv (.t 44))]) .ret))))))
@[go_sem] def c4_17_wp:=wp_of c4_17.eq_1
def c4:AFn:=⟨45,[.t 0],c4_17⟩
theorem c4_ok:compF Tryz.prog Tryz.f4=some c4:=by kernel_rfl
theorem a4 {args:List AV} {σ:ASt} {R:AV->ASt->Prop} (hl:args.length<=45) (h:c4_17.wp Tryz.prog (RetQ [.t 0] R) (init args) σ):ACalls Tryz.prog 4 args σ R:=acalls_of Tryz.func4 c4_ok hl h
end Go.A
namespace Go.A
open Go.Proofs Go.Lib
theorem live_ok {σ:ASt} (hT:CkT σ):ACalls Tryz.prog 4 [] σ fun v σ'=>v = .bool true/\σ'=σ:=by
 have hN:=dknew_ok hT 3
 have e3:min (max (3:Int) 2) 60000=3:=by decide
 rw [e3] at hN
 have hP:=dparse_ok [45,50,46,53] (by decide)
 have hPd:parseD [45,50,46,53]=some (-25000):=by decide +kernel
 rw [hPd] at hP
 have hS:=fun τ (h:CkT τ)=>ckseal_ok h [97,98] (by decide)
 have hO:=fun τ (h:CkT τ)=>ckopen_ok h ([97,98]++le32 (ckN [97,98])) (by rw [List.length_append,le32_len];decide)
 rw [openP_seal] at hO
 have hra:resAV (some (-25000)) = .tuple [.int .i64 (-25000),.bool true]:=rfl
 rw [hra] at hP
 refine a4 (by simp) ?_
 simp (disch:=first|assumption|omega|(simp only [List.length_append,List.length_cons,List.length_nil];omega)) only [go_sem]
 refine hN.mono ?_
 rintro v σ1 ⟨d,rfl,B,cB,rB,fv,F,I,cI,rI,hD⟩
 have hK:=dktake_new (hD.at hT) hD hT (newP_ok (by decide)) rfl (by decide:(1:Int)<3) rfl (by decide:(1:Int)<1000000000)
 simp (disch:=first|assumption|omega|(simp only [List.length_append,List.length_cons,List.length_nil];omega)) only [go_sem]
 refine hK.mono ?_
 rintro v σ2 ⟨rfl,h2⟩
 have hi:(((newP 3).isF.length:Nat):Int)=1:=rfl
 have hC2:CkT σ2:=h2.at hT
 simp (disch:=first|assumption|omega|(simp only [List.length_append,List.length_cons,List.length_nil];omega)) only [go_sem,hi]
 refine (hS _ hC2).mono ?_
 rintro v σ3 ⟨rfl,rfl⟩
 generalize [97,98]++le32 (ckN [97,98])=sx at *
 simp (disch:=first|assumption|omega|(simp only [List.length_append,List.length_cons,List.length_nil];omega)) only [go_sem]
 refine (hO _ hC2).mono ?_
 rintro v σ4 ⟨rfl,rfl⟩
 simp (disch:=first|assumption|omega|(simp only [List.length_append,List.length_cons,List.length_nil];omega)) only [go_sem]
 refine hP.use ?_
 simp (disch:=first|assumption|omega|(simp only [List.length_append,List.length_cons,List.length_nil];omega)) only [go_sem]
 exact retC_by h2.drop (.refl _) ⟨rfl,rfl⟩
end Go.A
namespace Go.A
open Go.Proofs
/-! 3: tabular/tabulartop.TabularStores -/
def c3_49:ACode := .seq (.ops [ oq 116 (.bin .lss (.t 115) (.t 114))]) (.seq (.cond (.t 116) .skip (.exit 2)) (.seq (.block 3 (.seq (.ops [ oq 117 (.mv (.t 115)),oq 20 (.mv (.t 117))]) (.seq (.ops [ oq 118 (.mv (.t 14)),oq 119 (.mv (.t 20)),oq 120 (.ia 1 (.t 118) (.t 119)),oq 121 (.ld none (.t 120)),oq 122 (.fa 0 (.t 18)),oq 123 (.ld none (.t 122)),oq 124 (.bin .eql (.t 121) (.t 123))]) (.cond (.t 124) (.ops [ oq 125 (.mv (.t 20)),oq 19 (.mv (.t 125))]) .skip)))) (.ops [ oq 126 (.bin .add (.t 115) (.v (.int .i64 1))),oq 115 (.mv (.t 126))])))
def c3_52:ACode := .seq (.ops [ oq 113 (.mv (.t 14)),oq 114 (.len (.t 113)),oq 115 (.mv (.v (.int .i64 0)))]) (.block 2 (.loop c3_49))
def c3_95:ACode := .seq (.seq (.ops [ oq 144 (.mv (.t 8)),oq 145 (.mv (.t 21)),oe 146 (.call 13 [(.t 144),(.t 145)]),oq 147 (.bin .neq (.t 146) (.v (.int .i64 0)))]) (.cond (.t 147) (.seq (.ops [ oq 6 (.mv (.v (.bool false)))]) .ret) .skip)) (.seq (.seq (.ops [ oq 149 (.mv (.t 10)),oq 150 (.fa 0 (.t 18)),oq 151 (.ld none (.t 150)),oe 152 (.call 14 [(.t 149),(.t 151)]),oq 148 (.mv (.t 152)),oq 153 (.ext 0 (.t 148)),oq 154 (.ext 1 (.t 148)),oq 24 (.mv (.t 153)),oq 25 (.mv (.t 154))]) (.seq (.ops [ oq 155 (.mv (.t 25)),oq 156 (.bin .neq (.t 155) (.v (.int .i64 0)))]) (.cond (.t 156) (.seq (.ops [ oq 6 (.mv (.v (.bool false)))]) .ret) .skip))) (.seq (.ops [ oq 158 (.mv (.t 12)),oq 159 (.fa 0 (.t 18)),oq 160 (.ld none (.t 159)),oe 161 (.call 15 [(.t 158),(.t 160)]),oq 157 (.mv (.t 161)),oq 162 (.ext 0 (.t 157)),oq 163 (.ext 1 (.t 157)),oq 26 (.mv (.t 162)),oq 27 (.mv (.t 163))]) (.seq (.seq (.ops [ oq 164 (.mv (.t 27)),oq 165 (.bin .neq (.t 164) (.v (.int .i64 0))),oq 166 (.mv (.t 165)),⟨some 167,some (166,false),.q (.mv (.t 26)),[]⟩,⟨some 168,some (166,false),.q (.mv (.t 19)),[]⟩,⟨some 169,some (166,false),.q (.bin .neq (.t 167) (.t 168)),[]⟩,oq 170 (.pick (.t 166) (.v (.bool true)) (.t 169))]) (.cond (.t 170) (.seq (.ops [ oq 6 (.mv (.v (.bool false)))]) .ret) .skip)) (.seq (.seq (.ops [ oq 172 (.mv (.t 12)),oq 173 (.mv (.t 26)),oe 174 (.call 16 [(.t 172),(.t 173)]),oq 171 (.mv (.t 174)),oq 175 (.ext 0 (.t 171)),oq 176 (.ext 1 (.t 171)),oq 28 (.mv (.t 175)),oq 29 (.mv (.t 176))]) (.seq (.ops [ oq 177 (.mv (.t 29)),oq 178 (.bin .neq (.t 177) (.v (.int .i64 0)))]) (.cond (.t 178) (.seq (.ops [ oq 6 (.mv (.v (.bool false)))]) .ret) .skip))) (.seq (.ops [ oq 179 (.mv (.t 1)),oq 180 (.bin .leq (.t 179) (.v (.int .i64 0))),oq 181 (.mv (.t 180)),⟨some 182,some (181,false),.q (.mv (.t 17)),[]⟩,⟨some 183,some (181,false),.q (.mv (.t 16)),[]⟩,⟨some 184,some (181,false),.q (.mv (.t 1)),[]⟩,⟨some 185,some (181,false),.q (.bin .sub (.t 183) (.t 184)),[]⟩,⟨some 186,some (181,false),.q (.bin .lss (.t 182) (.t 185)),[]⟩,oq 187 (.pick (.t 181) (.v (.bool true)) (.t 186))]) (.cond (.t 187) (.seq (.ops [ oq 188 (.bsl 1 []),oq 189 (.mv (.t 14)),oq 190 (.mv (.t 19)),oq 191 (.slto (false,1) (.t 189) (.t 190)),oq 193 (.mv (.t 14)),oq 194 (.mv (.t 19)),oq 195 (.bin .add (.t 194) (.v (.int .i64 1))),oq 196 (.slfrom (false,1) (.t 193) (.t 195)),oe 192 (.app 41 1 8 [(.int .u64 0)] (.t 188) (.t 191)),oe 197 (.app 41 1 8 [(.int .u64 0)] (.t 192) (.t 196)),oq 14 (.mv (.t 197))]) (.ops [ oq 198 (.bsl 1 []),oq 199 (.mv (.t 15)),oq 200 (.mv (.t 19)),oq 201 (.slto (false,1) (.t 199) (.t 200)),oq 203 (.mv (.t 15)),oq 204 (.mv (.t 19)),oq 205 (.bin .add (.t 204) (.v (.int .i64 1))),oq 206 (.slfrom (false,1) (.t 203) (.t 205)),oe 202 (.app 9 1 16 [(.str [])] (.t 198) (.t 201)),oe 207 (.app 9 1 16 [(.str [])] (.t 202) (.t 206)),oq 15 (.mv (.t 207))])) (.exit 0)))))))
def c3_96:ACode := .cond (.t 143) c3_95 .skip
def c3_97:ACode := .seq (.ops [ oq 143 (.mv (.t 22))]) c3_96
def c3_117:ACode := .seq (.ops [ oq 215 (.fa 1 (.t 18)),oq 216 (.ld none (.t 215)),oq 217 (.mv (.t 30)),oq 218 (.bin .add (.t 217) (.v (.int .i64 1))),oq 219 (.bin .rem (.t 216) (.t 218)),oq 220 (.mv (.t 30)),oq 221 (.bin .add (.t 219) (.t 220)),oq 222 (.bin .add (.t 221) (.v (.int .i64 1))),oq 223 (.mv (.t 30)),oq 224 (.bin .add (.t 223) (.v (.int .i64 1))),oq 225 (.bin .rem (.t 222) (.t 224)),oq 32 (.mv (.t 225))]) (.seq (.ops [ oq 227 (.mv (.t 8)),oq 228 (.fa 2 (.t 18)),oq 229 (.ld none (.t 228)),oe 230 (.call 18 [(.t 227),(.t 229)]),oq 226 (.mv (.t 230)),oq 231 (.ext 0 (.t 226)),oq 232 (.ext 1 (.t 226)),oq 21 (.mv (.t 231)),oq 33 (.mv (.t 232))]) (.seq (.seq (.ops [ oq 233 (.mv (.t 31)),oq 234 (.bin .neq (.t 233) (.v (.int .i64 0))),oq 235 (.mv (.t 234)),⟨some 236,some (235,false),.q (.mv (.t 33)),[]⟩,⟨some 237,some (235,false),.q (.bin .neq (.t 236) (.v (.int .i64 0))),[]⟩,oq 238 (.pick (.t 235) (.v (.bool true)) (.t 237)),oq 239 (.mv (.t 238)),⟨some 240,some (239,false),.q (.mv (.t 10)),[]⟩,⟨some 241,some (239,false),.q (.fa 0 (.t 18)),[]⟩,⟨some 242,some (239,false),.q (.ld none (.t 241)),[]⟩,⟨some 243,some (239,false),.q (.mv (.t 21)),[]⟩,⟨some 244,some (239,false),.e (.call 19 [(.t 240),(.t 242),(.t 243)]),[]⟩,⟨some 245,some (239,false),.q (.bin .neq (.t 244) (.v (.int .i64 0))),[]⟩,oq 246 (.pick (.t 239) (.v (.bool true)) (.t 245)),oq 247 (.mv (.t 246)),⟨some 248,some (247,false),.q (.mv (.t 12)),[]⟩,⟨some 249,some (247,false),.q (.mv (.t 32)),[]⟩,⟨some 250,some (247,false),.q (.fa 0 (.t 18)),[]⟩,⟨some 251,some (247,false),.q (.ld none (.t 250)),[]⟩,⟨some 252,some (247,false),.e (.call 20 [(.t 248),(.t 249),(.t 251)]),[]⟩,⟨some 253,some (247,false),.q (.bin .neq (.t 252) (.v (.int .i64 0))),[]⟩,oq 254 (.pick (.t 247) (.v (.bool true)) (.t 253))]) (.cond (.t 254) (.seq (.ops [ oq 6 (.mv (.v (.bool false)))]) .ret) .skip)) (.seq (.ops [ oq 255 (.mv (.t 1)),oq 256 (.bin .leq (.t 255) (.v (.int .i64 0))),oq 257 (.mv (.t 256)),⟨some 258,some (257,false),.q (.mv (.t 17)),[]⟩,⟨some 259,some (257,false),.q (.mv (.t 16)),[]⟩,⟨some 260,some (257,false),.q (.mv (.t 1)),[]⟩,⟨some 261,some (257,false),.q (.bin .sub (.t 259) (.t 260)),[]⟩,⟨some 262,some (257,false),.q (.bin .lss (.t 258) (.t 261)),[]⟩,oq 263 (.pick (.t 257) (.v (.bool true)) (.t 262))]) (.cond (.t 263) (.seq (.ops [ oq 264 (.bsl 1 []),oq 265 (.mv (.t 14)),oq 266 (.mv (.t 32)),oq 267 (.slto (false,1) (.t 265) (.t 266)),oq 269 (.fa 0 (.t 18)),oq 270 (.ld none (.t 269)),oq 271 (.bslv 1 [(.t 270)]),oq 273 (.mv (.t 14)),oq 274 (.mv (.t 32)),oq 275 (.slfrom (false,1) (.t 273) (.t 274)),⟨some 268,none,.e (.app 41 1 8 [(.int .u64 0)] (.t 264) (.t 267)),[⟨none,.ld none (.t 269),270⟩]⟩,oe 272 (.app 41 1 8 [(.int .u64 0)] (.t 268) (.t 271)),oe 276 (.app 41 1 8 [(.int .u64 0)] (.t 272) (.t 275)),oq 14 (.mv (.t 276))]) (.ops [ oq 277 (.bsl 1 []),oq 278 (.mv (.t 15)),oq 279 (.mv (.t 32)),oq 280 (.slto (false,1) (.t 278) (.t 279)),oq 282 (.fa 2 (.t 18)),oq 283 (.ld none (.t 282)),oq 284 (.bsl 1 [(.t 283)]),oq 286 (.mv (.t 15)),oq 287 (.mv (.t 32)),oq 288 (.slfrom (false,1) (.t 286) (.t 287)),⟨some 281,none,.e (.app 9 1 16 [(.str [])] (.t 277) (.t 280)),[⟨none,.ld none (.t 282),283⟩]⟩,oe 285 (.app 9 1 16 [(.str [])] (.t 281) (.t 284)),oe 289 (.app 9 1 16 [(.str [])] (.t 285) (.t 288)),oq 15 (.mv (.t 289))])) (.exit 0)))))
def c3_118:ACode := .seq (.ops [ oq 211 (.mv (.t 12)),oe 212 (.call 17 [(.t 211)]),oq 210 (.mv (.t 212)),oq 213 (.ext 0 (.t 210)),oq 214 (.ext 1 (.t 210)),oq 30 (.mv (.t 213)),oq 31 (.mv (.t 214))]) c3_117
def c3_119:ACode := .seq (.seq (.ops [ oq 208 (.fa 3 (.t 18)),oq 209 (.ld none (.t 208))]) (.cond (.t 209) (.exit 1) .skip)) c3_118
def c3_120:ACode := .seq c3_97 c3_119
def c3_121:ACode := .seq (.seq (.ops [ oq 135 (.mv (.t 23)),oq 136 (.bin .neq (.t 135) (.v (.int .i64 0))),oq 137 (.mv (.t 136)),⟨some 138,some (137,false),.q (.mv (.t 22)),[]⟩,⟨some 139,some (137,false),.q (.mv (.t 19)),[]⟩,⟨some 140,some (137,false),.q (.bin .geq (.t 139) (.v (.int .i64 0))),[]⟩,⟨some 141,some (137,false),.q (.eq .b true (.t 138) (.t 140)),[]⟩,oq 142 (.pick (.t 137) (.v (.bool true)) (.t 141))]) (.cond (.t 142) (.seq (.ops [ oq 6 (.mv (.v (.bool false)))]) .ret) .skip)) c3_120
def c3_122:ACode := .seq (.ops [ oq 128 (.mv (.t 10)),oq 129 (.fa 0 (.t 18)),oq 130 (.ld none (.t 129)),oe 131 (.call 12 [(.t 128),(.t 130)]),oq 127 (.mv (.t 131)),oq 132 (.ext 0 (.t 127)),oq 133 (.ext 1 (.t 127)),oq 134 (.ext 2 (.t 127)),oq 21 (.mv (.t 132)),oq 22 (.mv (.t 133)),oq 23 (.mv (.t 134))]) c3_121
def c3_123:ACode := .seq c3_52 c3_122
def c3_124:ACode := .seq (.ops [ oq 19 (.mv (.v (.int .i64 (-1))))]) c3_123
def c3_125:ACode := .seq (.ops [ oq 109 (.fa 2 (.t 18)),oq 110 (.ld none (.t 109)),oe 111 (.call 11 [(.t 110),(.v (.int .i64 50))]),oq 112 (.fa 2 (.t 18)),oz (.store 1 (.t 112) (.t 111))]) c3_124
def c3_126:ACode := .seq (.ops [ oq 105 (.mv (.t 2)),oq 106 (.mv (.t 17)),oq 107 (.ia 4 (.t 105) (.t 106)),oq 108 (.ld (some 4) (.t 107)),oe 18 (.alloc [(.int .u64 0),(.int .i64 0),(.str []),(.bool false)]),oz (.store 4 (.t 18) (.t 108))]) c3_125
def c3_127:ACode := .seq (.seq (.ops [ oq 95 (.mv (.t 17)),oq 96 (.mv (.t 16)),oq 97 (.mv (.t 1)),oq 98 (.bin .sub (.t 96) (.t 97)),oq 99 (.bin .eql (.t 95) (.t 98)),oq 100 (.mv (.t 99)),⟨some 101,some (100,true),.q (.mv (.t 7)),[]⟩,⟨some 102,some (100,true),.e (.call 10 [(.t 101)]),[]⟩,⟨some 103,some (100,true),.q (.bin .neq (.t 102) (.v (.int .i64 0))),[]⟩,oq 104 (.pick (.t 100) (.t 103) (.v (.bool false)))]) (.cond (.t 104) (.seq (.ops [ oq 6 (.mv (.v (.bool false)))]) .ret) .skip)) c3_126
def c3_128:ACode := .block 1 c3_127
def c3_130:ACode := .seq c3_128 (.ops [ oq 93 (.mv (.t 17)),oq 94 (.bin .add (.t 93) (.v (.int .i64 1))),oq 17 (.mv (.t 94))])
def c3_131:ACode := .seq (.seq (.ops [ oq 90 (.mv (.t 17)),oq 91 (.mv (.t 16)),oq 92 (.bin .lss (.t 90) (.t 91))]) (.cond (.t 92) .skip (.exit 0))) c3_130
def c3_166:ACode := .seq (.ops [ oq 323 (.bin .lss (.t 322) (.t 321))]) (.seq (.cond (.t 323) .skip (.exit 4)) (.seq (.block 5 (.seq (.ops [ oq 324 (.mv (.t 322)),oq 325 (.ia 1 (.t 320) (.t 322)),oq 326 (.ld none (.t 325)),oq 36 (.mv (.t 324)),oq 37 (.mv (.t 326))]) (.seq (.ops [ oq 328 (.mv (.t 12)),oq 329 (.mv (.t 37)),oe 330 (.call 15 [(.t 328),(.t 329)]),oq 327 (.mv (.t 330)),oq 331 (.ext 0 (.t 327)),oq 332 (.ext 1 (.t 327)),oq 38 (.mv (.t 331)),oq 39 (.mv (.t 332))]) (.seq (.ops [ oq 334 (.mv (.t 10)),oq 335 (.mv (.t 37)),oe 336 (.call 12 [(.t 334),(.t 335)]),oq 333 (.mv (.t 336)),oq 337 (.ext 0 (.t 333)),oq 338 (.ext 1 (.t 333)),oq 339 (.ext 2 (.t 333)),oq 40 (.mv (.t 337)),oq 41 (.mv (.t 338)),oq 42 (.mv (.t 339))]) (.seq (.ops [ oq 341 (.mv (.t 8)),oq 342 (.mv (.t 40)),oe 343 (.call 23 [(.t 341),(.t 342)]),oq 340 (.mv (.t 343)),oq 344 (.ext 0 (.t 340)),oq 345 (.ext 1 (.t 340)),oq 43 (.mv (.t 344)),oq 44 (.mv (.t 345))]) (.seq (.ops [ oq 346 (.mv (.t 39)),oq 347 (.bin .neq (.t 346) (.v (.int .i64 0))),oq 348 (.mv (.t 347)),⟨some 349,some (348,false),.q (.mv (.t 42)),[]⟩,⟨some 350,some (348,false),.q (.bin .neq (.t 349) (.v (.int .i64 0))),[]⟩,oq 351 (.pick (.t 348) (.v (.bool true)) (.t 350)),oq 352 (.mv (.t 351)),⟨some 353,some (352,false),.q (.mv (.t 44)),[]⟩,⟨some 354,some (352,false),.q (.bin .neq (.t 353) (.v (.int .i64 0))),[]⟩,oq 355 (.pick (.t 352) (.v (.bool true)) (.t 354)),oq 356 (.mv (.t 355)),⟨some 357,some (356,false),.q (.mv (.t 41)),[]⟩,⟨some 358,some (356,false),.q (.un .not (.t 357)),[]⟩,oq 359 (.pick (.t 356) (.v (.bool true)) (.t 358)),oq 360 (.mv (.t 359)),⟨some 361,some (360,false),.q (.mv (.t 38)),[]⟩,⟨some 362,some (360,false),.q (.mv (.t 36)),[]⟩,⟨some 363,some (360,false),.q (.bin .neq (.t 361) (.t 362)),[]⟩,oq 364 (.pick (.t 360) (.v (.bool true)) (.t 363)),oq 365 (.mv (.t 364)),⟨some 366,some (365,false),.q (.mv (.t 43)),[]⟩,⟨some 367,some (365,false),.q (.mv (.t 15)),[]⟩,⟨some 368,some (365,false),.q (.mv (.t 36)),[]⟩,⟨some 369,some (365,false),.q (.ia 1 (.t 367) (.t 368)),[]⟩,⟨some 370,some (365,false),.q (.ld none (.t 369)),[]⟩,⟨some 371,some (365,false),.q (.bin .neq (.t 366) (.t 370)),[]⟩,oq 372 (.pick (.t 365) (.v (.bool true)) (.t 371))]) (.cond (.t 372) (.seq (.ops [ oq 6 (.mv (.v (.bool false)))]) .ret) .skip))))))) (.ops [ oq 373 (.bin .add (.t 322) (.v (.int .i64 1))),oq 322 (.mv (.t 373))])))
def c3_175:ACode := .seq (.seq (.ops [ oq 290 (.mv (.t 1)),oq 291 (.bin .gtr (.t 290) (.v (.int .i64 0))),oq 292 (.mv (.t 291)),⟨some 293,some (292,true),.q (.mv (.t 1)),[]⟩,⟨some 294,some (292,true),.q (.mv (.t 16)),[]⟩,⟨some 295,some (292,true),.q (.bin .leq (.t 293) (.t 294)),[]⟩,oq 296 (.pick (.t 292) (.t 295) (.v (.bool false))),oq 297 (.mv (.t 296)),⟨some 298,some (297,true),.q (.mv (.t 7)),[]⟩,⟨some 299,some (297,true),.e (.call 21 [(.t 298)]),[]⟩,⟨some 300,some (297,true),.q (.bin .neq (.t 299) (.v (.int .i64 0))),[]⟩,oq 301 (.pick (.t 297) (.t 300) (.v (.bool false)))]) (.cond (.t 301) (.seq (.ops [ oq 6 (.mv (.v (.bool false)))]) .ret) .skip)) (.seq (.ops [ oq 303 (.mv (.t 12)),oe 304 (.call 17 [(.t 303)]),oq 302 (.mv (.t 304)),oq 305 (.ext 0 (.t 302)),oq 306 (.ext 1 (.t 302)),oq 34 (.mv (.t 305)),oq 35 (.mv (.t 306))]) (.seq (.seq (.ops [ oq 307 (.mv (.t 35)),oq 308 (.bin .neq (.t 307) (.v (.int .i64 0))),oq 309 (.mv (.t 308)),⟨some 310,some (309,false),.q (.mv (.t 34)),[]⟩,⟨some 311,some (309,false),.q (.mv (.t 14)),[]⟩,⟨some 312,some (309,false),.q (.len (.t 311)),[]⟩,⟨some 313,some (309,false),.q (.bin .neq (.t 310) (.t 312)),[]⟩,oq 314 (.pick (.t 309) (.v (.bool true)) (.t 313)),oq 315 (.mv (.t 314)),⟨some 316,some (315,false),.q (.mv (.t 7)),[]⟩,⟨some 317,some (315,false),.e (.call 22 [(.t 316)]),[]⟩,⟨some 318,some (315,false),.q (.bin .neq (.t 317) (.v (.int .i64 0))),[]⟩,oq 319 (.pick (.t 315) (.v (.bool true)) (.t 318))]) (.cond (.t 319) (.seq (.ops [ oq 6 (.mv (.v (.bool false)))]) .ret) .skip)) (.seq (.seq (.ops [ oq 320 (.mv (.t 14)),oq 321 (.len (.t 320)),oq 322 (.mv (.v (.int .i64 0)))]) (.block 4 (.loop c3_166))) (.seq (.ops [ oq 6 (.mv (.v (.bool true)))]) .ret))))
def c3_188:ACode := .seq (.ops [ oq 6 (.mv (.v (.bool false)))]) (.seq (.seq (.ops [ oe 45 (.call 4 []),oq 46 (.un .not (.t 45))]) (.cond (.t 46) (.seq (.ops [ oq 6 (.mv (.v (.bool false)))]) .ret) .skip)) (.seq (.seq (.ops [ oq 47 (.mv (.t 0)),oq 48 (.bin .lss (.t 47) (.v (.int .i64 1))),oq 49 (.mv (.t 48)),⟨some 50,some (49,false),.q (.mv (.t 0)),[]⟩,⟨some 51,some (49,false),.q (.bin .gtr (.t 50) (.v (.int .i64 6))),[]⟩,oq 52 (.pick (.t 49) (.v (.bool true)) (.t 51))]) (.cond (.t 52) (.seq (.ops [ oq 6 (.mv (.v (.bool true)))]) .ret) .skip)) (.seq (.ops [ oe 53 (.call 6 [(.v (.int .i64 2000))]),oq 54 (.mv (.t 0)),oe 55 (.call 5 [(.t 53),(.t 54),(.v (.int .i64 0))]),oq 7 (.mv (.t 55))]) (.seq (.ops [ oq 57 (.mv (.t 7)),oe 58 (.call 7 [(.t 57)]),oq 56 (.mv (.t 58)),oq 59 (.ext 0 (.t 56)),oq 60 (.ext 1 (.t 56)),oq 8 (.mv (.t 59)),oq 9 (.mv (.t 60))]) (.seq (.ops [ oq 62 (.mv (.t 7)),oe 63 (.call 8 [(.t 62)]),oq 61 (.mv (.t 63)),oq 64 (.ext 0 (.t 61)),oq 65 (.ext 1 (.t 61)),oq 10 (.mv (.t 64)),oq 11 (.mv (.t 65))]) (.seq (.ops [ oq 67 (.mv (.t 7)),oe 68 (.call 9 [(.t 67)]),oq 66 (.mv (.t 68)),oq 69 (.ext 0 (.t 66)),oq 70 (.ext 1 (.t 66)),oq 12 (.mv (.t 69)),oq 13 (.mv (.t 70))]) (.seq (.seq (.ops [ oq 71 (.mv (.t 9)),oq 72 (.bin .neq (.t 71) (.v (.int .i64 0))),oq 73 (.mv (.t 72)),⟨some 74,some (73,false),.q (.mv (.t 11)),[]⟩,⟨some 75,some (73,false),.q (.bin .neq (.t 74) (.v (.int .i64 0))),[]⟩,oq 76 (.pick (.t 73) (.v (.bool true)) (.t 75)),oq 77 (.mv (.t 76)),⟨some 78,some (77,false),.q (.mv (.t 13)),[]⟩,⟨some 79,some (77,false),.q (.bin .neq (.t 78) (.v (.int .i64 0))),[]⟩,oq 80 (.pick (.t 77) (.v (.bool true)) (.t 79))]) (.cond (.t 80) (.seq (.ops [ oq 6 (.mv (.v (.bool false)))]) .ret) .skip)) (.seq (.ops [ oq 81 (.bsl 1 []),oq 14 (.mv (.t 81))]) (.seq (.ops [ oq 82 (.bsl 1 []),oq 15 (.mv (.t 82))]) (.seq (.ops [ oq 83 (.mv (.t 2)),oq 84 (.len (.t 83)),oq 85 (.mnx false (.t 84) (.v (.int .i64 20))),oq 16 (.mv (.t 85))]) (.seq (.ops [ oq 86 (.mv (.t 1)),oq 87 (.mnx true (.t 86) (.v (.int .i64 0))),oq 88 (.mv (.t 16)),oq 89 (.mnx false (.t 87) (.t 88)),oq 1 (.mv (.t 89))]) (.seq (.seq (.ops [ oq 17 (.mv (.v (.int .i64 0)))]) (.block 0 (.loop c3_131))) c3_175))))))))))))
@[go_sem] def c3_49_wp:=wp_of c3_49.eq_1
@[go_sem] def c3_52_wp:=wp_of c3_52.eq_1
@[go_sem] def c3_95_wp:=wp_of c3_95.eq_1
@[go_sem] def c3_96_wp:=wp_of c3_96.eq_1
@[go_sem] def c3_97_wp:=wp_of c3_97.eq_1
@[go_sem] def c3_117_wp:=wp_of c3_117.eq_1
@[go_sem] def c3_118_wp:=wp_of c3_118.eq_1
@[go_sem] def c3_119_wp:=wp_of c3_119.eq_1
@[go_sem] def c3_120_wp:=wp_of c3_120.eq_1
@[go_sem] def c3_121_wp:=wp_of c3_121.eq_1
@[go_sem] def c3_122_wp:=wp_of c3_122.eq_1
@[go_sem] def c3_123_wp:=wp_of c3_123.eq_1
@[go_sem] def c3_124_wp:=wp_of c3_124.eq_1
@[go_sem] def c3_125_wp:=wp_of c3_125.eq_1
@[go_sem] def c3_126_wp:=wp_of c3_126.eq_1
@[go_sem] def c3_127_wp:=wp_of c3_127.eq_1
@[go_sem] def c3_128_wp:=wp_of c3_128.eq_1
@[go_sem] def c3_130_wp:=wp_of c3_130.eq_1
@[go_sem] def c3_131_wp:=wp_of c3_131.eq_1
@[go_sem] def c3_166_wp:=wp_of c3_166.eq_1
@[go_sem] def c3_175_wp:=wp_of c3_175.eq_1
@[go_sem] def c3_188_wp:=wp_of c3_188.eq_1
def c3:AFn:=⟨374,[.t 6],c3_188⟩
theorem c3_ok:compF Tryz.prog Tryz.f3=some c3:=by kernel_rfl
theorem a3 {args:List AV} {σ:ASt} {R:AV->ASt->Prop} (hl:args.length<=374) (h:c3_188.wp Tryz.prog (RetQ [.t 6] R) (init args) σ):ACalls Tryz.prog 3 args σ R:=acalls_of Tryz.func3 c3_ok hl h
end Go.A
namespace Go.A
open Go.Proofs
theorem PoolAt.grown {base σ σ':ASt} {p n:Nat} {m:PX} {pg:Pgs} {k:SK} {c s:Nat} (h:PoolAt base σ p m n pg) (hg:Grown σ σ' k c s):PoolAt base σ' p m n pg:=by
 rcases hg with ⟨_,_,rfl⟩|⟨b,T,_,hb,rfl⟩
 ·exact h
 ·obtain ⟨h1,h2⟩:=h.new (.tok (c*s)) hb
  exact h1.less h2 h.ck
theorem remC (x:Int) {c:Nat} (hc:c<=30):∃ n:Nat,n<=c/\IntKind.wrap .i64 ((c:Int)+1)=(c:Int)+1/\IntKind.wrap .i64 (x.tmod ((c:Int)+1))=x.tmod ((c:Int)+1)/\IntKind.wrap .i64 (x.tmod ((c:Int)+1)+c)=x.tmod ((c:Int)+1)+c ∧
  IntKind.wrap .i64 (x.tmod ((c:Int)+1)+c+1)=x.tmod ((c:Int)+1)+c+1/\IntKind.wrap .i64 ((x.tmod ((c:Int)+1)+c+1).tmod ((c:Int)+1))=(n:Int)/\(x.tmod ((c:Int)+1)+c+1).tmod ((c:Int)+1)=(n:Int):=by
 have h0:(0:Int)<(c:Int)+1:=by omega
 have h1:x.tmod ((c:Int)+1)<(c:Int)+1:=Int.tmod_lt_of_pos x h0
 have h2 : -((c:Int)+1)<x.tmod ((c:Int)+1):=by
  rcases Int.le_total 0 x with h|h
  ·have:=Int.tmod_nonneg (b:=(c:Int)+1) h;omega
  ·have h3:(-x).tmod ((c:Int)+1)<(c:Int)+1:=Int.tmod_lt_of_pos _ h0
   rw [Int.neg_tmod] at h3
   omega
 generalize x.tmod ((c:Int)+1)=y at *
 have h3:(y+c+1).tmod ((c:Int)+1)=(y+c+1) % ((c:Int)+1):=Int.tmod_eq_emod_of_nonneg (by omega)
 have h4:0<=(y+c+1) % ((c:Int)+1):=Int.emod_nonneg _ (by omega)
 have h5:(y+c+1) % ((c:Int)+1)<(c:Int)+1:=Int.emod_lt_of_pos _ h0
 refine ⟨((y+c+1) % ((c:Int)+1)).toNat,by omega,by rw [IntKind.wrap_i64];omega,by rw [IntKind.wrap_i64];omega,by rw [IntKind.wrap_i64];omega,by rw [IntKind.wrap_i64];omega,?_,by omega⟩
 rw [h3,IntKind.wrap_i64]
 omega
section
variable {σ:ASt} {a:AFr} {K:List Nat} {k1:SK} {x key:Nat} {pos:Int} {text:List UInt8} {gone:Bool}
set_option maxHeartbeats 1000000 in
theorem st_at (hx:σ x=some (.obj [.int .u64 key,.int .i64 pos,.str text,.bool gone])) (hk:key<18446744073709551616) (hu:u64L K) (hl:K.length<=30) (ha:a 14 = .sl k1 (kv .u64 K)/\a 18 = .ptr x 0/\a 19 = .int .i64 (-1)) {Q:APost}
  (hQ:∀ (a':AFr) (z:Int),(z = -1/\key ∉ K\/∃ i:Nat,z=i/\K[i]? = some key)->a' 1=a 1/\a' 2=a 2/\a' 7=a 7/\a' 8=a 8/\a' 10=a 10/\a' 12=a 12/\a' 14=a 14/\a' 15=a 15/\a' 16=a 16/\a' 17=a 17/\a' 18=a 18/\a' 19 = .int .i64 z->Q .normal a' σ) :
  c3_52.wp Tryz.prog Q a σ:=by
 have hkl:=kv_len .u64 K
 have hkg:=fun (i n:Nat) (h:K[i]? = some n)=>kv_get (k := .u64) h
 generalize kv .u64 K=KV at *
 simp (disch:=first|assumption|omega|(simp only [List.length_append,List.length_cons,List.length_nil];omega)) only [go_sem,ha,hkl]
 obtain ⟨J,hJ⟩:∃ J:Nat->AFr->ASt->Prop,J=fun j a1 s2=>j<=K.length/\(a1 1=a 1/\a1 2=a 2/\a1 7=a 7/\a1 8=a 8/\a1 10=a 10/\a1 12=a 12/\a1 14 = .sl k1 KV/\a1 15=a 15/\a1 16=a 16/\a1 17=a 17/\a1 18 = .ptr x 0/\a1 114 = .int .i64 K.length/\a1 115 = .int .i64 j) ∧
  (∃ z:Int,a1 19 = .int .i64 z/\(z = -1/\key ∉ K.take j\/∃ i:Nat,z=i/\K[i]? = some key))/\s2=σ:=⟨_,rfl⟩
 refine wp_loop_on J (fun j=>K.length+1-j) 0 ?_ ?_
 ·rw [hJ]
  refine ⟨Nat.zero_le _,?_,⟨-1,?_,.inl ⟨rfl,by simp⟩⟩,rfl⟩
  ·simp (disch:=first|assumption|omega|(simp only [List.length_append,List.length_cons,List.length_nil];omega)) only [go_sem,ha]
   try simp only [and_self]
  ·simp (disch:=first|assumption|omega|(simp only [List.length_append,List.length_cons,List.length_nil];omega)) only [go_sem,ha]
 intro j a1 s2 hj2
 rw [hJ] at hj2
 obtain ⟨hj,hf,⟨z,hz,hzz⟩,rfl⟩:=hj2
 by_cases hlt':j<K.length
 ·have hlt:(j:Int)<(K.length:Int):=by omega
  obtain ⟨v,hv⟩:∃ v,K[j]? = some v:=⟨_,List.getElem?_eq_getElem (by omega)⟩
  have hg:=hkg j v hv
  have j0:¬ (j:Int)<0:=by omega
  by_cases hc:v=key
  ·subst hc
   simp (disch:=first|assumption|omega|(simp only [List.length_append,List.length_cons,List.length_nil];omega)) only [go_sem,hf,hlt,hg,j0,Int.toNat_natCast,hx]
   refine ⟨j+1,by omega,?_⟩
   rw [hJ]
   refine ⟨by omega,?_,⟨j,?_,.inr ⟨j,rfl,hv⟩⟩,rfl⟩
   ·simp (disch:=first|assumption|omega|(simp only [List.length_append,List.length_cons,List.length_nil];omega)) only [go_sem,hf]
    try simp only [and_self]
   ·simp (disch:=first|assumption|omega|(simp only [List.length_append,List.length_cons,List.length_nil];omega)) only [go_sem,hf]
  ·have hc':¬ (v:Int)=(key:Int):=by omega
   simp (disch:=first|assumption|omega|(simp only [List.length_append,List.length_cons,List.length_nil];omega)) only [go_sem,hf,hlt,hg,j0,Int.toNat_natCast,hx,hc']
   refine ⟨j+1,by omega,?_⟩
   rw [hJ]
   refine ⟨by omega,?_,⟨z,?_,hzz.imp_left fun h=>⟨h.1,fun hm=>?_⟩⟩,rfl⟩
   ·simp (disch:=first|assumption|omega|(simp only [List.length_append,List.length_cons,List.length_nil];omega)) only [go_sem,hf]
    try simp only [and_self]
   ·simp (disch:=first|assumption|omega|(simp only [List.length_append,List.length_cons,List.length_nil];omega)) only [go_sem,hf,hz]
   ·rw [List.take_add_one,hv] at hm
    rcases List.mem_append.1 hm with hm|hm
    ·exact h.2 hm
    ·exact hc (List.mem_singleton.1 (hm:key ∈ [v])).symm
 ·have hlt:¬ (j:Int)<(K.length:Int):=by omega
  obtain rfl:j=K.length:=by omega
  simp (disch:=first|assumption|omega|(simp only [List.length_append,List.length_cons,List.length_nil];omega)) only [go_sem,hf,hlt]
  refine hQ _ z ?_ ?_
  ·rw [List.take_length] at hzz;exact hzz
  ·simp (disch:=first|assumption|omega|(simp only [List.length_append,List.length_cons,List.length_nil];omega)) only [go_sem,hf,hz,ha]
   try simp only [and_self]
end
end Go.A
namespace Go.A
open Go.Proofs
section
variable {σ0 base σ:ASt} {a:AFr} {K:List Nat} {X:List (List UInt8)} {k1 k2:SK} {p hb t s t2 hr tr sr st u n:Nat}
def FinS (base σ:ASt) (p hr tr sr st u n:Nat) (K:List Nat) (X:List (List UInt8)):Prop:=
 (u=0/\∃ nn pg,PoolAt base σ p ⟨2000,none⟩ nn pg/\StP pg hr tr sr st K X)\/(0<u/\u<=n/\∃ nn pg old,PoolAt base σ p ⟨2000,some old⟩ nn pg/\StP old hr tr sr st K X)
set_option maxHeartbeats 2000000 in
theorem st_tail (hkb:Kept σ0 base) (hh:base hb=some (.obj [.ptr p 0,.int .i64 hr])) (ht:base t=some (.obj [.ptr p 0,.int .i64 tr])) (hs:base s=some (.obj [.ptr p 0,.int .i64 sr,.ptr t2 0])) (ht2:base t2=some (.obj [.ptr p 0,.int .i64 st])) (hl:K.length<=30)
  (ha:a 1 = .int .i64 u/\a 7 = .ptr p 0/\a 8 = .ptr hb 0/\a 10 = .ptr t 0/\a 12 = .ptr s 0/\a 14 = .sl k1 (kv .u64 K)/\a 15 = .sl k2 (X.map AV.str)/\a 16 = .int .i64 n) (hfin:FinS base σ p hr tr sr st u n K X) :
  c3_175.wp Tryz.prog (RetQ [.t 6] fun v σ'=>v = .bool true/\σ'=σ0) a σ:=by
 rw [c3_175_wp]
 refine wp_cut (fun a' σ'=>(a' 7 = .ptr p 0/\a' 8 = .ptr hb 0/\a' 10 = .ptr t 0/\a' 12 = .ptr s 0/\a' 14 = .sl k1 (kv .u64 K)/\a' 15 = .sl k2 (X.map AV.str))/\∃ nn pg,PoolAt base σ' p ⟨2000,none⟩ nn pg/\StP pg hr tr sr st K X) ?_ ?_
 ·generalize kv .u64 K=KV at *
  generalize X.map AV.str=XV at *
  rcases hfin with ⟨rfl,nn,pg,h1,h2⟩|⟨hu0,hun,nn,pg,old,h1,h2⟩
  ·have u0:((0:Nat):Int)=0:=rfl
   simp (disch:=first|assumption|omega|(simp only [List.length_append,List.length_cons,List.length_nil];omega)) only [go_sem,ha,u0]
   exact ⟨nn,pg,h1,h2⟩
  ·have hu1:(u:Int)>0:=by omega
   have hu2:(u:Int)<=(n:Int):=by omega
   have hund:=plundo_ok h1
   simp (disch:=first|assumption|omega|(simp only [List.length_append,List.length_cons,List.length_nil];omega)) only [go_sem,ha,hu1,hu2]
   refine hund.mono ?_
   rintro v σ1 ⟨rfl,h3⟩
   simp (disch:=first|assumption|omega|(simp only [List.length_append,List.length_cons,List.length_nil];omega)) only [go_sem,ha]
   exact ⟨nn,old,h3,h2⟩
 ·rintro a1 σ1 ⟨hf,nn,pg,h1,T,H,M,hQ⟩
  have hkl:=kv_len .u64 K
  have hkg:=fun (i n:Nat) (h:K[i]? = some n)=>kv_get (k := .u64) h
  have hxg:∀ (i:Nat) (x:List UInt8),X[i]? = some x->(X.map AV.str)[i]? = some (.str x):=fun i x h=>by rw [List.getElem?_map,h];rfl
  generalize kv .u64 K=KV at *
  generalize X.map AV.str=XV at *
  have hlen:=sqlen_one h1 hs hQ.sq
  simp (disch:=first|assumption|omega|(simp only [List.length_append,List.length_cons,List.length_nil];omega)) only [go_sem,hf]
  refine hlen.mono ?_
  rintro v σ2 ⟨rfl,h2⟩
  have hpin:=plpinned_ok h2
  simp (disch:=first|assumption|omega|(simp only [List.length_append,List.length_cons,List.length_nil];omega)) only [go_sem,hf,hkl]
  refine hpin.mono ?_
  rintro v σ3 ⟨rfl,rfl⟩
  simp (disch:=first|assumption|omega|(simp only [List.length_append,List.length_cons,List.length_nil];omega)) only [go_sem,hf,hkl]
  obtain ⟨J,hJ⟩:∃ J:Nat->AFr->ASt->Prop,J=fun j a2 s4=>j<=K.length/\(a2 8 = .ptr hb 0/\a2 10 = .ptr t 0/\a2 12 = .ptr s 0/\a2 15 = .sl k2 XV/\a2 320 = .sl k1 KV/\a2 321 = .int .i64 K.length/\a2 322 = .int .i64 j)/\PoolAt base s4 p ⟨2000,none⟩ nn pg:=⟨_,rfl⟩
  refine wp_loop_on J (fun j=>K.length+1-j) 0 ?_ ?_
  ·rw [hJ]
   refine ⟨Nat.zero_le _,?_,h2⟩
   simp (disch:=first|assumption|omega|(simp only [List.length_append,List.length_cons,List.length_nil];omega)) only [go_sem,hf]
   try exact ⟨rfl,rfl⟩
  intro j a2 s4 hj
  rw [hJ] at hj
  obtain ⟨hj,hg,h4⟩:=hj
  by_cases hlt':j<K.length
  ·have hlt:(j:Int)<(K.length:Int):=by omega
   obtain ⟨k,hk⟩:∃ k,K[j]? = some k:=⟨_,List.getElem?_eq_getElem (by omega)⟩
   have hkj:=hkg j k hk
   obtain ⟨id,x,g1,g2,g3⟩:=hQ.pt j k hk
   have hxj:=hxg j x g2
   have j0:¬ (j:Int)<0:=by omega
   have hfind:=sqfind_one h4 hs ht2 hQ.sq hk
   simp (disch:=first|assumption|omega|(simp only [List.length_append,List.length_cons,List.length_nil];omega)) only [go_sem,hg,hlt,hkj,j0,Int.toNat_natCast]
   refine hfind.mono ?_
   rintro v σ5 ⟨rfl,h5⟩
   have hget:=trget_at h5 ht hQ.lf.tr k
   rw [g1] at hget
   have e1:(some id:Option Nat).getD 0=id:=rfl
   have e2:(some id:Option Nat).isSome=true:=rfl
   rw [e1,e2] at hget
   simp (disch:=first|assumption|omega|(simp only [List.length_append,List.length_cons,List.length_nil];omega)) only [go_sem,hg]
   refine hget.mono ?_
   rintro v σ6 ⟨rfl,h6⟩
   have hhg:=hpget_ok h6 hh hQ.hp g3
   simp (disch:=first|assumption|omega|(simp only [List.length_append,List.length_cons,List.length_nil];omega)) only [go_sem,hg]
   refine hhg.mono ?_
   rintro v σ7 ⟨rfl,h7⟩
   simp (disch:=first|assumption|omega|(simp only [List.length_append,List.length_cons,List.length_nil];omega)) only [go_sem,hg,hxj,j0,Int.toNat_natCast]
   refine ⟨j+1,by omega,?_⟩
   rw [hJ]
   refine ⟨by omega,?_,h7⟩
   simp (disch:=first|assumption|omega|(simp only [List.length_append,List.length_cons,List.length_nil];omega)) only [go_sem,hg]
   try exact ⟨rfl,rfl⟩
  ·have hlt:¬ (j:Int)<(K.length:Int):=by omega
   simp (disch:=first|assumption|omega|(simp only [List.length_append,List.length_cons,List.length_nil];omega)) only [go_sem,hg,hlt]
   refine retC_by (σ':=σ0) (fun x=>?_) (.refl _) ⟨rfl,rfl⟩
   cases hc:σ0 x with
   | none=>exact .inr rfl
   | some r=>exact .inl (h4.at (hkb x r hc)).symm
end
end Go.A
namespace Go.A
open Go.Proofs
section
variable {B σ:ASt} {a:AFr} {K:List Nat} {X:List (List UInt8)} {k1 k2:SK} {p hb t s t2 hr tr sr st u n i x key id j nn:Nat} {m:PX} {pg:Pgs} {T:Nat->Prop} {H:Nat->Option (List UInt8)} {M:Nat->Option Nat} {pos:Int} {text:List UInt8} {gone:Bool} {EV:List AV}
theorem kvf_leaves (l:List Nat):leaves ((kv .u64 l).flatMap AV.cells)=true:=by
 induction l with
 | nil=>rfl
 | cons x l ih=>
   show leaves (([AV.int .u64 (x:Int)]:List AV)++(kv .u64 l).flatMap AV.cells)=true
   exact ih
theorem str_well (l:List (List UInt8)):wellSz 1 (l.map AV.str)=true:=wellSz_map (f:=AV.str) (fun n=>⟨rfl,rfl⟩) l
theorem str_leaves (l:List (List UInt8)):leaves ((l.map AV.str).flatMap AV.cells)=true:=by
 induction l with
 | nil=>rfl
 | cons x l ih=>
   show leaves (([AV.str x]:List AV)++(l.map AV.str).flatMap AV.cells)=true
   exact ih
set_option maxHeartbeats 2000000 in
theorem st_drop (h:PoolAt B σ p m nn pg) (hh:B hb=some (.obj [.ptr p 0,.int .i64 hr])) (ht:B t=some (.obj [.ptr p 0,.int .i64 tr])) (hs:B s=some (.obj [.ptr p 0,.int .i64 sr,.ptr t2 0])) (ht2:B t2=some (.obj [.ptr p 0,.int .i64 st]))
  (hx:B x=some (.obj [.int .u64 key,.int .i64 pos,.str text,.bool gone])) (hQ:StQ pg hr tr sr st K X T H M) (hj:K[j]? = some key) (hid:M key=some id) (hl:K.length<=30) (hun:u<=n) (hn:n<=20) (hi:i<n)
  (ha:a 1 = .int .i64 u/\a 2 = .sl .shr EV/\a 7 = .ptr p 0/\a 8 = .ptr hb 0/\a 10 = .ptr t 0/\a 12 = .ptr s 0/\a 14 = .sl k1 (kv .u64 K)/\a 15 = .sl k2 (X.map AV.str)/\a 16 = .int .i64 n/\a 17 = .int .i64 i/\a 18 = .ptr x 0/\a 19 = .int .i64 j/\a 21 = .int .u64 id) {Q:APost}
  (hN:∀ (a':AFr) (σ':ASt) (k1' k2':SK) (pg':Pgs),(u=0\/i<n-u)->PoolAt B σ' p m nn pg'->StP pg' hr tr sr st (delL K j) (X.take j++X.drop (j+1)) →
   (a' 1 = .int .i64 u/\a' 2 = .sl .shr EV/\a' 7 = .ptr p 0/\a' 8 = .ptr hb 0/\a' 10 = .ptr t 0/\a' 12 = .ptr s 0/\a' 14 = .sl k1' (kv .u64 (delL K j))/\a' 15 = .sl k2' ((X.take j++X.drop (j+1)).map AV.str)/\a' 16 = .int .i64 n/\a' 17 = .int .i64 i/\a' 18 = .ptr x 0)->Q .normal a' σ')
  (hX:∀ (a':AFr) (σ':ASt) (pg':Pgs),¬ (u=0\/i<n-u)->PoolAt B σ' p m nn pg' →
   (a' 1 = .int .i64 u/\a' 7 = .ptr p 0/\a' 8 = .ptr hb 0/\a' 10 = .ptr t 0/\a' 12 = .ptr s 0/\a' 14 = .sl k1 (kv .u64 K)/\a' 15 = .sl k2 (X.map AV.str)/\a' 16 = .int .i64 n)->Q (.exit 0) a' σ') :
  c3_95.wp Tryz.prog Q a σ:=by
 have hjl:=(List.getElem?_eq_some_iff.1 hj).1
 obtain ⟨id',x',g1,g2,g3⟩:=hQ.pt j key hj
 rw [hid] at g1
 injection g1 with g1
 subst g1
 have hxs:=h.at hx
 have hd:=hpdrop_ok h hh hQ.hp g3 rfl
 have wu:IntKind.wrap .i64 ((n:Int)-(u:Int))=(n:Int)-u:=by rw [IntKind.wrap_i64];omega
 have wj:IntKind.wrap .i64 ((j:Int)+1)=(j:Int)+1:=by rw [IntKind.wrap_i64];omega
 simp (disch:=first|assumption|omega|(simp only [List.length_append,List.length_cons,List.length_nil];omega)) only [go_sem,ha]
 refine hd.mono ?_
 rintro v σ1 ⟨pg1,T1,rfl,hH1,hF1,h1⟩
 obtain ⟨l1,s1,o1⟩:=hQ.heap hF1
 have hx1:=h1.at hx
 have htd:=lfdrop_ok h1 ht l1 hid
 simp (disch:=first|assumption|omega|(simp only [List.length_append,List.length_cons,List.length_nil];omega)) only [go_sem,ha,hx1]
 refine htd.mono ?_
 rintro v σ2 ⟨rfl,b,l2,h2⟩
 have s2:=hQ.row (b:=b) s1
 have hx2:=h2.at hx
 have hfd:=sqfind_one h2 hs ht2 s2 hj
 simp (disch:=first|assumption|omega|(simp only [List.length_append,List.length_cons,List.length_nil];omega)) only [go_sem,ha,hx2]
 refine hfd.mono ?_
 rintro v σ3 ⟨rfl,h3⟩
 have hsd:=sqdrop_l h3 hs ht2 s2 hj
 simp (disch:=first|assumption|omega|(simp only [List.length_append,List.length_cons,List.length_nil];omega)) only [go_sem,ha]
 refine hsd.mono ?_
 rintro v σ4 ⟨rfl,b1,b2,s4,h4⟩
 have hP:=hQ.dropped hj hid hH1 o1 l2 s4
 have hkl:=kv_len .u64 K
 have hXl:(X.map AV.str).length=X.length:=List.length_map _
 have hXK:=hQ.len
 have ej:((j+1:Nat):Int)=(j:Int)+1:=by omega
 have t1:slV (false,1) (.sl k1 (kv .u64 K)) 0 (j:Int)=some (.sl .shr (kv .u64 (K.take j))):=slV_to (f:=fun (n:Nat)=>AV.int .u64 (n:Int)) (by omega)
 have t2':slV (false,1) (.sl k1 (kv .u64 K)) ((j:Int)+1) (K.length:Int)=some (.sl .shr (kv .u64 (K.drop (j+1)))):=by
  have:=slV_from (f:=fun (n:Nat)=>AV.int .u64 (n:Int)) (s:=1) (fun _=>rfl) (k:=k1) (L:=K) (j:=j+1) (by omega)
  rw [ej] at this
  exact this
 have t3:slV (false,1) (.sl k2 (X.map AV.str)) 0 (j:Int)=some (.sl .shr ((X.take j).map AV.str)):=slV_to (by omega)
 have t4:slV (false,1) (.sl k2 (X.map AV.str)) ((j:Int)+1) (K.length:Int)=some (.sl .shr ((X.drop (j+1)).map AV.str)):=by
  have:=slV_from (f:=AV.str) (s:=1) (fun _=>rfl) (k:=k2) (L:=X) (j:=j+1) (by omega)
  rw [ej,hXK] at this
  exact this
 have q1:kv .u64 (K.take j)++kv .u64 (K.drop (j+1))=kv .u64 (delL K j):=(kv_app ..).symm
 have q2:(X.take j).map AV.str++(X.drop (j+1)).map AV.str=(X.take j++X.drop (j+1)).map AV.str:=List.map_append.symm
 have w1:=kv_well .u64 (K.take j)
 have w2:=kv_well .u64 (K.drop (j+1))
 have w3:=kvf_leaves (K.take j)
 have w4:=kvf_leaves (K.drop (j+1))
 have w5:=str_well (X.take j)
 have w6:=str_well (X.drop (j+1))
 have w7:=str_leaves (X.take j)
 have w8:=str_leaves (X.drop (j+1))
 have n1:(kv .u64 (K.take j)).length<=30:=by rw [kv_len,List.length_take];omega
 have n2:(kv .u64 (K.drop (j+1))).length<=30:=by rw [kv_len,List.length_drop];omega
 have n3:((X.take j).map AV.str).length<=30:=by rw [List.length_map,List.length_take];omega
 have n4:((X.drop (j+1)).map AV.str).length<=30:=by rw [List.length_map,List.length_drop];omega
 generalize kv .u64 (K.take j)=K1 at *
 generalize kv .u64 (K.drop (j+1))=K2 at *
 generalize (X.take j).map AV.str=X1 at *
 generalize (X.drop (j+1)).map AV.str=X2 at *
 generalize kv .u64 K=KV at *
 generalize X.map AV.str=XV at *
 generalize kv .u64 (delL K j)=KD at *
 generalize hXD:(X.take j++X.drop (j+1)).map AV.str=XD at *
 have j0:(0:Int)<=(j:Int):=by omega
 have j1:(j:Int)<=(K.length:Int):=by omega
 have j2:(j:Int)+1<=(K.length:Int):=by omega
 have j3:(0:Int)<=(j:Int)+1:=by omega
 have j4:((j:Int)+1).toNat=j+1:=by omega
 rw [hXK] at hXl
 by_cases hc:u=0\/i<n-u
 ·have hc':(u:Int)<=0\/¬ (u:Int)<=0/\(i:Int)<(n:Int)-(u:Int):=by omega
  rcases hc' with hA|⟨hA,hB⟩
  all_goals first
   | (have hB':=hB;simp (disch:=first|assumption|omega|(simp only [List.length_append,List.length_cons,List.length_nil];omega)) only [go_sem,ha,wu,wj,hA,hB',hkl,hXl,t1,t2',t3,t4,j0,j1,j2,j3,j4,Int.toNat_natCast])
   | simp (disch:=first|assumption|omega|(simp only [List.length_append,List.length_cons,List.length_nil];omega)) only [go_sem,ha,wu,wj,hA,hkl,hXl,t1,t2',t3,t4,j0,j1,j2,j3,j4,Int.toNat_natCast]
  all_goals
   refine appC_by (bytes:=8) (xs := []) (ys:=K1) (Grown.start σ4 1) w1 w3 (by rw [List.length_nil];omega) (by rw [List.length_nil];omega) fun k5 σ5 g5=>?_
   rw [List.nil_append] at g5 ⊢
   simp (disch:=first|assumption|omega|(simp only [List.length_append,List.length_cons,List.length_nil];omega)) only [go_sem,ha,wj,hkl,hXl,t1,t2',t3,t4,j0,j1,j2,j3,j4,Int.toNat_natCast]
   refine appC_by (bytes:=8) (xs:=K1) (ys:=K2) g5 w2 w4 (by omega) (by omega) fun k6 σ6 g6=>?_
   rw [q1]
   have h6:=h4.grown g6
   simp (disch:=first|assumption|omega|(simp only [List.length_append,List.length_cons,List.length_nil];omega)) only [go_sem,ha,wj,hkl,hXl,t1,t2',t3,t4,j0,j1,j2,j3,j4,Int.toNat_natCast]
   refine appC_by (bytes:=16) (xs := []) (ys:=X1) (Grown.start σ6 1) w5 w7 (by rw [List.length_nil];omega) (by rw [List.length_nil];omega) fun k7 σ7 g7=>?_
   rw [List.nil_append] at g7 ⊢
   simp (disch:=first|assumption|omega|(simp only [List.length_append,List.length_cons,List.length_nil];omega)) only [go_sem,ha,wj,hkl,hXl,t1,t2',t3,t4,j0,j1,j2,j3,j4,Int.toNat_natCast]
   refine appC_by (bytes:=16) (xs:=X1) (ys:=X2) g7 w6 w8 (by omega) (by omega) fun k8 σ8 g8=>?_
   rw [q2]
   have h8:=h6.grown g8
   simp (disch:=first|assumption|omega|(simp only [List.length_append,List.length_cons,List.length_nil];omega)) only [go_sem,ha,wj,hkl,hXl,t1,t2',t3,t4,j0,j1,j2,j3,j4,Int.toNat_natCast]
   refine hN _ _ k6 k8 _ hc h8 hP ?_
   simp (disch:=first|assumption|omega|(simp only [List.length_append,List.length_cons,List.length_nil];omega)) only [go_sem,ha]
 ·have hA:¬ (u:Int)<=0:=by omega
  have hB:¬ (i:Int)<(n:Int)-(u:Int):=by omega
  simp (disch:=first|assumption|omega|(simp only [List.length_append,List.length_cons,List.length_nil];omega)) only [go_sem,ha,wu,hA,hB]
  refine hX _ _ _ hc h4 ?_
  simp (disch:=first|assumption|omega|(simp only [List.length_append,List.length_cons,List.length_nil];omega)) only [go_sem,ha]
end
end Go.A
namespace Go.A
open Go.Proofs
section
variable {B σ:ASt} {a:AFr} {K:List Nat} {X:List (List UInt8)} {k1 k2:SK} {p hb t s t2 hr tr sr st u n i x key nn:Nat} {m:PX} {pg:Pgs} {T:Nat->Prop} {H:Nat->Option (List UInt8)} {M:Nat->Option Nat} {pos:Int} {text:List UInt8} {gone:Bool} {EV:List AV}
set_option maxHeartbeats 4000000 in
theorem st_put (h:PoolAt B σ p m nn pg) (hh:B hb=some (.obj [.ptr p 0,.int .i64 hr])) (ht:B t=some (.obj [.ptr p 0,.int .i64 tr])) (hs:B s=some (.obj [.ptr p 0,.int .i64 sr,.ptr t2 0])) (ht2:B t2=some (.obj [.ptr p 0,.int .i64 st]))
  (hx:B x=some (.obj [.int .u64 key,.int .i64 pos,.str text,.bool gone])) (hkey:key<18446744073709551616) (htx:text.length<=300) (hQ:StQ pg hr tr sr st K X T H M) (hno:key ∉ K) (hl:K.length<=25) (hun:u<=n) (hn:n<=20) (hi:i<n) (hroom:(nn:Int)<m.most)
  (ha:a 1 = .int .i64 u/\a 2 = .sl .shr EV/\a 7 = .ptr p 0/\a 8 = .ptr hb 0/\a 10 = .ptr t 0/\a 12 = .ptr s 0/\a 14 = .sl k1 (kv .u64 K)/\a 15 = .sl k2 (X.map AV.str)/\a 16 = .int .i64 n/\a 17 = .int .i64 i/\a 18 = .ptr x 0) {Q:APost}
  (hN:∀ (a':AFr) (σ':ASt) (k1' k2':SK) (pg':Pgs) (j:Nat),(u=0\/i<n-u)->j<=K.length->PoolAt B σ' p m (nn+1) pg'->StP pg' hr tr sr st (insL K j key) (X.take j++text::X.drop j) →
   (a' 1 = .int .i64 u/\a' 2 = .sl .shr EV/\a' 7 = .ptr p 0/\a' 8 = .ptr hb 0/\a' 10 = .ptr t 0/\a' 12 = .ptr s 0/\a' 14 = .sl k1' (kv .u64 (insL K j key))/\a' 15 = .sl k2' ((X.take j++text::X.drop j).map AV.str)/\a' 16 = .int .i64 n/\a' 17 = .int .i64 i/\a' 18 = .ptr x 0)->Q .normal a' σ')
  (hX:∀ (a':AFr) (σ':ASt) (pg':Pgs),¬ (u=0\/i<n-u)->PoolAt B σ' p m (nn+1) pg' →
   (a' 1 = .int .i64 u/\a' 7 = .ptr p 0/\a' 8 = .ptr hb 0/\a' 10 = .ptr t 0/\a' 12 = .ptr s 0/\a' 14 = .sl k1 (kv .u64 K)/\a' 15 = .sl k2 (X.map AV.str)/\a' 16 = .int .i64 n)->Q (.exit 0) a' σ') :
  c3_118.wp Tryz.prog Q a σ:=by
 have hXK:=hQ.len
 have wu:IntKind.wrap .i64 ((n:Int)-(u:Int))=(n:Int)-u:=by rw [IntKind.wrap_i64];omega
 have hMn:M key=none:=by
  cases hc:M key with
  | none=>rfl
  | some v=>exact absurd ((hQ.mem key).1 (by rw [hc];simp)) hno
 have hlen:=sqlen_one h hs hQ.sq
 obtain ⟨j,hj,r1,r2,r3,r4,r5,r6⟩:=remC pos (c:=K.length) (by omega)
 have c0:¬ ((K.length:Int)+1)=0:=by omega
 simp (disch:=first|assumption|omega|(simp only [List.length_append,List.length_cons,List.length_nil];omega)) only [go_sem,ha]
 refine hlen.mono ?_
 rintro v σ1 ⟨rfl,h1⟩
 have hx1:=h1.at hx
 have hpd:=hpput_ok h1 hh hQ.hp htx hroom
 simp (disch:=first|assumption|omega|(simp only [List.length_append,List.length_cons,List.length_nil];omega)) only [go_sem,ha,hx1,r1,r2,r3,r4,r5,r6,c0]
 refine hpd.mono ?_
 rintro v σ2 ⟨id,pg1,T1,rfl,hid,hHn,hH1,hF1,h2⟩
 obtain ⟨l1,s1,o1⟩:=hQ.heap hF1
 have hx2:=h2.at hx
 have htp:=lfput_ok h2 ht l1 hkey (v:=id) (by omega) hMn (by omega)
 simp (disch:=first|assumption|omega|(simp only [List.length_append,List.length_cons,List.length_nil];omega)) only [go_sem,ha,hx2,r6]
 refine htp.mono ?_
 rintro v σ3 ⟨rfl,b,l2,h3⟩
 have s2:=hQ.row (b:=b) s1
 have hx3:=h3.at hx
 have hin:=sqins_l h3 hs ht2 s2 hj hkey hno (by omega)
 simp (disch:=first|assumption|omega|(simp only [List.length_append,List.length_cons,List.length_nil];omega)) only [go_sem,ha,hx3,r6]
 refine hin.mono ?_
 rintro v σ4 ⟨rfl,b1,b2,s4,h4⟩
 have hP:=hQ.laid hj hno hHn hH1 o1 l2 s4
 have hx4:=h4.at hx
 have hkl:=kv_len .u64 K
 have hXl:(X.map AV.str).length=X.length:=List.length_map _
 have t1:slV (false,1) (.sl k1 (kv .u64 K)) 0 (j:Int)=some (.sl .shr (kv .u64 (K.take j))):=slV_to (f:=fun (n:Nat)=>AV.int .u64 (n:Int)) (by omega)
 have t2':slV (false,1) (.sl k1 (kv .u64 K)) (j:Int) (K.length:Int)=some (.sl .shr (kv .u64 (K.drop j))):=slV_from (f:=fun (n:Nat)=>AV.int .u64 (n:Int)) (s:=1) (fun _=>rfl) (k:=k1) (L:=K) (j:=j) (by omega)
 have t3:slV (false,1) (.sl k2 (X.map AV.str)) 0 (j:Int)=some (.sl .shr ((X.take j).map AV.str)):=slV_to (by omega)
 have t4:slV (false,1) (.sl k2 (X.map AV.str)) (j:Int) (K.length:Int)=some (.sl .shr ((X.drop j).map AV.str)):=by
  have:=slV_from (f:=AV.str) (s:=1) (fun _=>rfl) (k:=k2) (L:=X) (j:=j) (by omega)
  rw [hXK] at this
  exact this
 have q1:(kv .u64 (K.take j) ++ [.int .u64 (key:Int)])++kv .u64 (K.drop j)=kv .u64 (insL K j key):=by
  unfold insL
  rw [kv_app,List.append_assoc]
  rfl
 have q2:((X.take j).map AV.str ++ [.str text])++(X.drop j).map AV.str=(X.take j++text::X.drop j).map AV.str:=by
  rw [List.map_append,List.append_assoc]
  rfl
 have w1:=kv_well .u64 (K.take j)
 have w2:=kv_well .u64 (K.drop j)
 have w3:=kvf_leaves (K.take j)
 have w4:=kvf_leaves (K.drop j)
 have w5:=str_well (X.take j)
 have w6:=str_well (X.drop j)
 have w7:=str_leaves (X.take j)
 have w8:=str_leaves (X.drop j)
 have n1:(kv .u64 (K.take j)).length<=30:=by rw [kv_len,List.length_take];omega
 have n2:(kv .u64 (K.drop j)).length<=30:=by rw [kv_len,List.length_drop];omega
 have n3:((X.take j).map AV.str).length<=30:=by rw [List.length_map,List.length_take];omega
 have n4:((X.drop j).map AV.str).length<=30:=by rw [List.length_map,List.length_drop];omega
 generalize kv .u64 (K.take j)=K1 at *
 generalize kv .u64 (K.drop j)=K2 at *
 generalize (X.take j).map AV.str=X1 at *
 generalize (X.drop j).map AV.str=X2 at *
 generalize kv .u64 K=KV at *
 generalize X.map AV.str=XV at *
 have hN':=fun a' σ' k1' k2' pg'=>hN a' σ' k1' k2' pg' j
 rw [<-q1,← q2] at hN'
 have j0:(0:Int)<=(j:Int):=by omega
 have j1:(j:Int)<=(K.length:Int):=by omega
 rw [hXK] at hXl
 by_cases hc:u=0\/i<n-u
 ·have hc':(u:Int)<=0\/¬ (u:Int)<=0/\(i:Int)<(n:Int)-(u:Int):=by omega
  rcases hc' with hA|⟨hA,hB⟩
  all_goals first
   | (have hB':=hB;simp (disch:=first|assumption|omega|(simp only [List.length_append,List.length_cons,List.length_nil];omega)) only [go_sem,ha,hkl,hXl,t1,t2',t3,t4,j0,j1,Int.toNat_natCast,wu,hA,hB',hx4])
   | simp (disch:=first|assumption|omega|(simp only [List.length_append,List.length_cons,List.length_nil];omega)) only [go_sem,ha,hkl,hXl,t1,t2',t3,t4,j0,j1,Int.toNat_natCast,wu,hA,hx4]
  all_goals
   refine appC_by (bytes:=8) (xs := []) (ys:=K1) (Grown.start σ4 1) w1 w3 (by rw [List.length_nil];omega) (by rw [List.length_nil];omega) fun k5 σ5 g5=>?_
   rw [List.nil_append] at g5 ⊢
   have hx5:=g5.at hx4
   simp (disch:=first|assumption|omega|(simp only [List.length_append,List.length_cons,List.length_nil];omega)) only [go_sem,ha,hkl,hXl,t1,t2',t3,t4,j0,j1,Int.toNat_natCast,hx5]
   refine appC_by (bytes:=8) (xs:=K1) (ys := [.int .u64 (key:Int)]) g5 rfl rfl (by simp only [List.length_cons,List.length_nil];omega) (by simp only [List.length_cons,List.length_nil];omega) fun k6 σ6 g6=>?_
   have hx6:=g6.at hx4
   simp (disch:=first|assumption|omega|(simp only [List.length_append,List.length_cons,List.length_nil];omega)) only [go_sem,ha,hkl,hXl,t1,t2',t3,t4,j0,j1,Int.toNat_natCast,hx6]
   refine appC_by (bytes:=8) (xs:=K1 ++ [.int .u64 (key:Int)]) (ys:=K2) g6 w2 w4 (by simp only [List.length_append,List.length_cons,List.length_nil];omega) (by simp only [List.length_append,List.length_cons,List.length_nil];omega) fun k7 σ7 g7=>?_
   have h7:=h4.grown g7
   have hx7:=h7.at hx
   simp (disch:=first|assumption|omega|(simp only [List.length_append,List.length_cons,List.length_nil];omega)) only [go_sem,ha,hkl,hXl,t1,t2',t3,t4,j0,j1,Int.toNat_natCast,hx7]
   refine appC_by (bytes:=16) (xs := []) (ys:=X1) (Grown.start σ7 1) w5 w7 (by rw [List.length_nil];omega) (by rw [List.length_nil];omega) fun k8 σ8 g8=>?_
   rw [List.nil_append] at g8 ⊢
   have hx8:=g8.at hx7
   simp (disch:=first|assumption|omega|(simp only [List.length_append,List.length_cons,List.length_nil];omega)) only [go_sem,ha,hkl,hXl,t1,t2',t3,t4,j0,j1,Int.toNat_natCast,hx8]
   refine appC_by (bytes:=16) (xs:=X1) (ys := [.str text]) g8 rfl rfl (by simp only [List.length_cons,List.length_nil];omega) (by simp only [List.length_cons,List.length_nil];omega) fun k9 σ9 g9=>?_
   have hx9:=g9.at hx7
   simp (disch:=first|assumption|omega|(simp only [List.length_append,List.length_cons,List.length_nil];omega)) only [go_sem,ha,hkl,hXl,t1,t2',t3,t4,j0,j1,Int.toNat_natCast,hx9]
   refine appC_by (bytes:=16) (xs:=X1 ++ [.str text]) (ys:=X2) g9 w6 w8 (by simp only [List.length_append,List.length_cons,List.length_nil];omega) (by simp only [List.length_append,List.length_cons,List.length_nil];omega) fun k10 σ10 g10=>?_
   have h10:=h7.grown g10
   simp (disch:=first|assumption|omega|(simp only [List.length_append,List.length_cons,List.length_nil];omega)) only [go_sem,ha,hkl,hXl,t1,t2',t3,t4,j0,j1,Int.toNat_natCast]
   refine hN' _ _ k7 k10 _ hc hj h10 hP ?_
   simp (disch:=first|assumption|omega|(simp only [List.length_append,List.length_cons,List.length_nil];omega)) only [go_sem,ha]
 ·have hA:¬ (u:Int)<=0:=by omega
  have hB:¬ (i:Int)<(n:Int)-(u:Int):=by omega
  simp (disch:=first|assumption|omega|(simp only [List.length_append,List.length_cons,List.length_nil];omega)) only [go_sem,ha,wu,hA,hB]
  refine hX _ _ _ hc h4 ?_
  simp (disch:=first|assumption|omega|(simp only [List.length_append,List.length_cons,List.length_nil];omega)) only [go_sem,ha]
end
end Go.A
namespace Go.A
open Go.Proofs
structure En where
 key:Nat
 pos:Int
 text:List UInt8
 gone:Bool
def enAV (e:En):AV := .agg [.int .u64 e.key,.int .i64 e.pos,.str e.text,.bool e.gone]
section
variable {P:Program} {Q:APost} {a:AFr} {σ:ASt}
theorem wp_seqK {x y:ACode} (h:∀ K:AFr->ASt->Prop,(∀ a σ,y.wp P Q a σ->K a σ)->x.wp P (SeqQ (fun _=>K) Q) a σ):ACode.wp P (.seq x y) Q a σ:=
 wp_cut _ (h _ fun _ _ h=>h) fun _ _ h=>h
end
section
variable {base σ:ASt} {a:AFr} {p hb t s t2 hr tr sr st u n i:Nat} {L:List En}
def RSt (base:ASt) (p hb t s hr tr sr st u n:Nat) (L:List En) (i c:Nat) (a:AFr) (σ:ASt):Prop:=
 ∃ (K:List Nat) (X:List (List UInt8)) (k1 k2:SK) (nn:Nat) (pg:Pgs) (old:Option Pgs),
  (a 1 = .int .i64 u/\a 2 = .sl .shr (L.map enAV)/\a 7 = .ptr p 0/\a 8 = .ptr hb 0/\a 10 = .ptr t 0/\a 12 = .ptr s 0/\a 14 = .sl k1 (kv .u64 K)/\a 15 = .sl k2 (X.map AV.str)/\a 16 = .int .i64 n/\a 17 = .int .i64 c) ∧
  K.length<=i/\nn<=5+i/\PoolAt base σ p ⟨2000,old⟩ nn pg/\StP pg hr tr sr st K X/\(old=none/\(u=0\/i<=n-u)\/old=some pg/\0<u/\n-u<i)
def FSt (base:ASt) (p hb t s hr tr sr st u n:Nat) (a:AFr) (σ:ASt):Prop:=
 ∃ (K:List Nat) (X:List (List UInt8)) (k1 k2:SK),(a 1 = .int .i64 u/\a 7 = .ptr p 0/\a 8 = .ptr hb 0/\a 10 = .ptr t 0/\a 12 = .ptr s 0/\a 14 = .sl k1 (kv .u64 K)/\a 15 = .sl k2 (X.map AV.str)/\a 16 = .int .i64 n)/\K.length<=30/\FinS base σ p hr tr sr st u n K X
set_option maxHeartbeats 4000000 in
theorem st_rest {B:ASt} {x key nn:Nat} {pos:Int} {text:List UInt8} {gone:Bool} {K:List Nat} {X:List (List UInt8)} {k1 k2:SK} {pg:Pgs} {old:Option Pgs} (hkB:Kept base B) (hck:CkT base) (h:PoolAt B σ p ⟨2000,old⟩ nn pg) (hS:StP pg hr tr sr st K X)
  (hh:B hb=some (.obj [.ptr p 0,.int .i64 hr])) (ht:B t=some (.obj [.ptr p 0,.int .i64 tr])) (hs:B s=some (.obj [.ptr p 0,.int .i64 sr,.ptr t2 0])) (ht2:B t2=some (.obj [.ptr p 0,.int .i64 st]))
  (hx:B x=some (.obj [.int .u64 key,.int .i64 pos,.str text,.bool gone])) (hkey:key<18446744073709551616) (htx:text.length<=50) (hno:key ∉ K) (hl:K.length<=i) (hnn:nn<=5+i) (hun:u<=n) (hn:n<=20) (hi:i<n)
  (hph:(u=0\/i<n-u)/\old=none\/¬ (u=0\/i<n-u)/\old=some pg)
  (ha:a 1 = .int .i64 u/\a 2 = .sl .shr (L.map enAV)/\a 7 = .ptr p 0/\a 8 = .ptr hb 0/\a 10 = .ptr t 0/\a 12 = .ptr s 0/\a 14 = .sl k1 (kv .u64 K)/\a 15 = .sl k2 (X.map AV.str)/\a 16 = .int .i64 n/\a 17 = .int .i64 i/\a 18 = .ptr x 0) {Q:APost}
  (hN:∀ a σ,RSt base p hb t s hr tr sr st u n L (i+1) i a σ->Q .normal a σ) (h1:∀ a σ,RSt base p hb t s hr tr sr st u n L (i+1) i a σ->Q (.exit 1) a σ) (h0:∀ a σ,FSt base p hb t s hr tr sr st u n a σ->Q (.exit 0) a σ) :
  c3_119.wp Tryz.prog Q a σ:=by
 have hxs:=h.at hx
 rw [c3_119_wp]
 refine wp_seqK fun K1 hK1=>?_
 cases gone with
 | true=>
   simp (disch:=first|assumption|omega|(simp only [List.length_append,List.length_cons,List.length_nil];omega)) only [go_sem,ha,hxs]
   refine h1 _ _ ⟨K,X,k1,k2,nn,pg,old,?_,by omega,by omega,h.less hkB hck,hS,?_⟩
   ·simp (disch:=first|assumption|omega|(simp only [List.length_append,List.length_cons,List.length_nil];omega)) only [go_sem,ha]
    try simp only [and_self]
   ·rcases hph with ⟨g1,g2⟩|⟨g1,g2⟩
    ·exact .inl ⟨g2,by omega⟩
    ·exact .inr ⟨g2,by omega,by omega⟩
 | false=>
   simp (disch:=first|assumption|omega|(simp only [List.length_append,List.length_cons,List.length_nil];omega)) only [go_sem,ha,hxs]
   refine hK1 _ _ ?_
   obtain ⟨T,H,M,hQ⟩:=hS
   refine st_put h hh ht hs ht2 hx hkey (by omega) hQ hno (by omega) hun hn hi (by show (nn:Int)<2000;omega) (EV:=L.map enAV) (k1:=k1) (k2:=k2) (by simp (disch:=first|assumption|omega|(simp only [List.length_append,List.length_cons,List.length_nil];omega)) only [go_sem,ha];try simp only [and_self]) (fun a' σ' k1' k2' pg' j hc hj hP' hS' hf=>hN _ _ ?_) (fun a' σ' pg' hc hP' hf=>h0 _ _ ?_)
   ·rcases hph with ⟨g1,rfl⟩|⟨g1,_⟩
    ·exact ⟨_,_,k1',k2',nn+1,pg',none,⟨hf.1,hf.2.1,hf.2.2.1,hf.2.2.2.1,hf.2.2.2.2.1,hf.2.2.2.2.2.1,hf.2.2.2.2.2.2.1,hf.2.2.2.2.2.2.2.1,hf.2.2.2.2.2.2.2.2.1,hf.2.2.2.2.2.2.2.2.2.1⟩,by rw [insL_len hj];omega,by omega,hP'.less hkB hck,hS',.inl ⟨rfl,by omega⟩⟩
    ·exact absurd hc g1
   ·rcases hph with ⟨g1,_⟩|⟨g1,rfl⟩
    ·exact absurd g1 hc
    ·exact ⟨K,X,k1,k2,hf,by omega,.inr ⟨by omega,hun,nn+1,pg',pg,hP'.less hkB hck,T,H,M,hQ⟩⟩
end
end Go.A
namespace Go.A
open Go.Proofs
theorem condC_of {P:Program} {v:AV} {x y:ACode} {Q:APost} {a:AFr} {σ:ASt} (hv:v = .bool true) (h:x.wp P Q a σ):condC P v x y Q a σ:=by
 subst hv
 rw [condC_t]
 exact h
section
variable {base σ:ASt} {a:AFr} {p hb t s t2 hr tr sr st u n i:Nat} {L:List En}
set_option maxHeartbeats 4000000 in
theorem st_body {K:List Nat} {X:List (List UInt8)} {k1 k2:SK} {nn:Nat} {pg:Pgs} {old:Option Pgs} {e:En}
  (hh:base hb=some (.obj [.ptr p 0,.int .i64 hr])) (ht:base t=some (.obj [.ptr p 0,.int .i64 tr])) (hs:base s=some (.obj [.ptr p 0,.int .i64 sr,.ptr t2 0])) (ht2:base t2=some (.obj [.ptr p 0,.int .i64 st]))
  (h:PoolAt base σ p ⟨2000,old⟩ nn pg) (hS:StP pg hr tr sr st K X) (he:L[i]? = some e) (hkey:e.key<18446744073709551616) (hl:K.length<=i) (hnn:nn<=5+i) (hun:u<=n) (hn:n<=20) (hi:i<n)
  (hph:(u=0\/i<n-u)/\old=none\/¬ (u=0\/i<n-u)/\old=some pg)
  (ha:a 1 = .int .i64 u/\a 2 = .sl .shr (L.map enAV)/\a 7 = .ptr p 0/\a 8 = .ptr hb 0/\a 10 = .ptr t 0/\a 12 = .ptr s 0/\a 14 = .sl k1 (kv .u64 K)/\a 15 = .sl k2 (X.map AV.str)/\a 16 = .int .i64 n/\a 17 = .int .i64 i) {Q:APost}
  (hN:∀ a σ,RSt base p hb t s hr tr sr st u n L (i+1) i a σ->Q .normal a σ) (h1:∀ a σ,RSt base p hb t s hr tr sr st u n L (i+1) i a σ->Q (.exit 1) a σ) (h0:∀ a σ,FSt base p hb t s hr tr sr st u n a σ->Q (.exit 0) a σ) :
  c3_126.wp Tryz.prog Q a σ:=by
 have hev:(L.map enAV)[i]? = some (.agg [.int .u64 e.key,.int .i64 e.pos,.str e.text,.bool e.gone]):=by rw [List.getElem?_map,he];rfl
 obtain ⟨EV,hEV⟩:∃ EV,EV=L.map enAV:=⟨_,rfl⟩
 rw [<-hEV] at hev ha
 have i0:¬ (i:Int)<0:=by omega
 rw [c3_126_wp]
 refine wp_seqK fun K1 hK1=>?_
 simp (disch:=first|assumption|omega|(simp only [List.length_append,List.length_cons,List.length_nil];omega)) only [go_sem,ha,hev,i0,Int.toNat_natCast]
 refine allocC_by fun x hx=>?_
 obtain ⟨h2,e2⟩:=h.new (.obj [.int .u64 e.key,.int .i64 e.pos,.str e.text,.bool e.gone]) hx
 simp (disch:=first|assumption|omega|(simp only [List.length_append,List.length_cons,List.length_nil];omega)) only [go_sem,ha,ASt.set_set]
 refine hK1 _ _ ?_
 obtain ⟨σ2,hσ2⟩:∃ σ2,σ2=σ.set x (some (.obj [.int .u64 e.key,.int .i64 e.pos,.str e.text,.bool e.gone])):=⟨_,rfl⟩
 rw [<-hσ2] at h2 ⊢
 have hx2:=h2.at (ASt.set_same _ _ _)
 rw [c3_125_wp]
 refine wp_seqK fun K2 hK2=>?_
 simp (disch:=first|assumption|omega|(simp only [List.length_append,List.length_cons,List.length_nil];omega)) only [go_sem,ha,hx2]
 refine (lcut_ok e.text 50).use ?_
 simp (disch:=first|assumption|omega|(simp only [List.length_append,List.length_cons,List.length_nil];omega)) only [go_sem,ha,hx2]
 refine hK2 _ _ ?_
 have hxk:x≠0:=(h.fresh hx).2
 have h3:=h2.set (some (.obj [.int .u64 e.key,.int .i64 e.pos,.str (e.text.take 50),.bool e.gone])) (.inl (by rw [ASt.set_same];simp)) hxk
 rw [ASt.set_set] at h3
 have hxb:=(h.fresh hx).1
 have hB:(base.set x (some (.obj [.int .u64 e.key,.int .i64 e.pos,.str (e.text.take 50),.bool e.gone]))) x=some (.obj [.int .u64 e.key,.int .i64 e.pos,.str (e.text.take 50),.bool e.gone]):=ASt.set_same _ _ _
 have hkB:Kept base (base.set x (some (.obj [.int .u64 e.key,.int .i64 e.pos,.str (e.text.take 50),.bool e.gone]))):=fun y q hy=>by
  rw [ASt.set_ne (fun e=>by rw [e,hxb] at hy;cases hy)];exact hy
 have htx:(e.text.take 50).length<=50:=by rw [List.length_take];omega
 have hhB:=hkB _ _ hh
 have htB:=hkB _ _ ht
 have hsB:=hkB _ _ hs
 have ht2B:=hkB _ _ ht2
 have hck:=h.ck
 generalize base.set x (some (.obj [.int .u64 e.key,.int .i64 e.pos,.str (e.text.take 50),.bool e.gone]))=B at *
 obtain ⟨σ3,hσ3⟩:∃ σ3,σ3=σ2.set x (some (.obj [.int .u64 e.key,.int .i64 e.pos,.str (e.text.take 50),.bool e.gone])):=⟨_,rfl⟩
 rw [<-hσ3] at h3 ⊢
 generalize e.text.take 50=tx at *
 have hx3:=h3.at hB
 clear hσ2 hσ3 h2 e2 hx2
 rw [c3_124_wp]
 refine wp_seqK fun K3 hK3=>?_
 simp (disch:=first|assumption|omega|(simp only [List.length_append,List.length_cons,List.length_nil];omega)) only [go_sem,ha]
 refine hK3 _ _ ?_
 rw [c3_123_wp]
 refine wp_seqK fun K4 hK4=>?_
 obtain ⟨T,H,M,hQ⟩:=hS
 refine st_at hx3 hkey hQ.sq.iu (by omega) (k1:=k1) (K:=K) (by simp (disch:=first|assumption|omega|(simp only [List.length_append,List.length_cons,List.length_nil];omega)) only [go_sem,ha]) fun a2 z hz hf=>hK4 _ _ ?_
 have ha2:a2 1 = .int .i64 u/\a2 2 = .sl .shr EV/\a2 7 = .ptr p 0/\a2 8 = .ptr hb 0/\a2 10 = .ptr t 0/\a2 12 = .ptr s 0/\a2 14 = .sl k1 (kv .u64 K)/\a2 15 = .sl k2 (X.map AV.str)/\a2 16 = .int .i64 n/\a2 17 = .int .i64 i/\a2 18 = .ptr x 0/\a2 19 = .int .i64 z:=by
  obtain ⟨f1,f2,f3,f4,f5,f6,f7,f8,f9,f10,f11,f12⟩:=hf
  rw [f1,f2,f3,f4,f5,f6,f7,f8,f9,f10,f11,f12]
  simp (disch:=first|assumption|omega|(simp only [List.length_append,List.length_cons,List.length_nil];omega)) only [go_sem,ha]
  try simp only [and_self]
 clear hf hK1 hK2 hK3 hK4 K1 K2 K3 K4
 have hget:=trget_at h3 htB hQ.lf.tr e.key
 rw [c3_122_wp]
 refine wp_seqK fun K1 hK1=>?_
 simp (disch:=first|assumption|omega|(simp only [List.length_append,List.length_cons,List.length_nil];omega)) only [go_sem,ha2,hx3]
 refine hget.mono ?_
 rintro v σ4 ⟨rfl,h4⟩
 simp (disch:=first|assumption|omega|(simp only [List.length_append,List.length_cons,List.length_nil];omega)) only [go_sem,ha2]
 refine hK1 _ _ ?_
 rw [c3_121_wp]
 refine wp_seqK fun K2 hK2=>?_
 rcases hz with ⟨rfl,hno⟩|⟨j,rfl,hj⟩
 ·have hM:M e.key=none:=by
   cases hc:M e.key with
   | none=>rfl
   | some v=>exact absurd ((hQ.mem e.key).1 (by rw [hc];simp)) hno
  have e1:(none:Option Nat).isSome=false:=rfl
  have zz:¬ ((-1:Int) ≥ 0):=by decide
  rw [hM]
  simp (disch:=first|assumption|omega|(simp only [List.length_append,List.length_cons,List.length_nil];omega)) only [go_sem,ha2,e1,zz]
  refine hK2 _ _ ?_
  rw [c3_120_wp]
  refine wp_seqK fun K3 hK3=>?_
  simp (disch:=first|assumption|omega|(simp only [List.length_append,List.length_cons,List.length_nil];omega)) only [go_sem,e1]
  refine hK3 _ _ ?_
  refine st_rest (L:=L) hkB hck h4 ⟨T,H,M,hQ⟩ hhB htB hsB ht2B hB hkey htx hno hl hnn hun hn hi hph (k1:=k1) (k2:=k2) ?_ hN h1 h0
  rw [<-hEV]
  simp (disch:=first|assumption|omega|(simp only [List.length_append,List.length_cons,List.length_nil];omega)) only [go_sem,ha2]
  try simp only [and_self]
 ·obtain ⟨id,x',g1,g2,g3⟩:=hQ.pt j e.key hj
  have e1:(some id:Option Nat).isSome=true:=rfl
  have e2:(some id:Option Nat).getD 0=id:=rfl
  have zz:(j:Int) ≥ 0:=by omega
  rw [g1]
  simp (disch:=first|assumption|omega|(simp only [List.length_append,List.length_cons,List.length_nil];omega)) only [go_sem,ha2,e1,e2,zz]
  refine hK2 _ _ ?_
  rw [c3_120_wp]
  refine wp_seqK fun K3 hK3=>?_
  rw [c3_97_wp]
  refine wp_seqK fun K4 hK4=>?_
  simp (disch:=first|assumption|omega|(simp only [List.length_append,List.length_cons,List.length_nil];omega)) only [go_sem,e1]
  refine hK4 _ _ ?_
  rw [c3_96_wp,wp_cond']
  refine condC_of (by simp (disch:=first|assumption|omega|(simp only [List.length_append,List.length_cons,List.length_nil];omega)) only [go_sem,e1]) ?_
  have hnd:=hQ.sq.nd
  refine st_drop (Q:=SeqQ (fun _=>K3) Q) (EV:=EV) (k1:=k1) (k2:=k2) h4 hhB htB hsB ht2B hB hQ hj g1 (by omega) hun hn hi ?_ (fun a' σ' k1' k2' pg' hc hP' hS' hf=>?_) (fun a' σ' pg' hc hP' hf=>?_)
  ·simp (disch:=first|assumption|omega|(simp only [List.length_append,List.length_cons,List.length_nil];omega)) only [go_sem,ha2,e2]
   try simp only [and_self]
  ·show K3 a' σ'
   refine hK3 _ _ ?_
   rcases hph with ⟨c1,rfl⟩|⟨c1,_⟩
   ·refine st_rest (L:=L) hkB hck hP' hS' hhB htB hsB ht2B hB hkey htx (fun hm=>((del_mem hnd hj).1 hm).2 rfl) (by rw [delL_len (List.getElem?_eq_some_iff.1 hj).1];omega) hnn hun hn hi (.inl ⟨hc,rfl⟩) (k1:=k1') (k2:=k2') ?_ hN h1 h0
    rw [<-hEV]
    exact hf
   ·exact absurd hc c1
  ·show Q (.exit 0) a' σ'
   rcases hph with ⟨c1,_⟩|⟨c1,rfl⟩
   ·exact absurd c1 hc
   ·exact h0 _ _ ⟨K,X,k1,k2,hf,by omega,.inr ⟨by omega,hun,nn,pg',pg,hP'.less hkB hck,T,H,M,hQ⟩⟩
end
end Go.A
namespace Go.A
open Go.Proofs
section
variable {base σ:ASt} {a:AFr} {p hb t s t2 hr tr sr st u n i:Nat} {L:List En}
set_option maxHeartbeats 4000000 in
theorem st_loop (hh:base hb=some (.obj [.ptr p 0,.int .i64 hr])) (ht:base t=some (.obj [.ptr p 0,.int .i64 tr])) (hs:base s=some (.obj [.ptr p 0,.int .i64 sr,.ptr t2 0])) (ht2:base t2=some (.obj [.ptr p 0,.int .i64 st]))
  (hL:∀ e∈L,e.key<18446744073709551616) (hun:u<=n) (hn:n<=20) (hnL:n<=L.length) {Q:APost} (h0:∀ a σ,FSt base p hb t s hr tr sr st u n a σ->Q (.exit 0) a σ) (hR:RSt base p hb t s hr tr sr st u n L 0 0 a σ) :
  ACode.wp Tryz.prog (.loop c3_131) Q a σ:=by
 refine wp_loop_on (fun i a σ=>i<=n/\RSt base p hb t s hr tr sr st u n L i i a σ) (fun i=>n+1-i) 0 ⟨Nat.zero_le _,hR⟩ ?_
 rintro i a1 s2 ⟨hi,K,X,k1,k2,nn,pg,old,hf,hl,hnn,hP,hS,hph⟩
 have wu:IntKind.wrap .i64 ((n:Int)-(u:Int))=(n:Int)-u:=by rw [IntKind.wrap_i64];omega
 have wi:IntKind.wrap .i64 ((i:Int)+1)=(i:Int)+1:=by rw [IntKind.wrap_i64];omega
 obtain ⟨EV,hEV⟩:∃ EV,EV=L.map enAV:=⟨_,rfl⟩
 rw [<-hEV] at hf
 obtain ⟨KV,hKV⟩:∃ KV,KV=kv .u64 K:=⟨_,rfl⟩
 rw [<-hKV] at hf
 obtain ⟨XV,hXV⟩:∃ XV,XV=X.map AV.str:=⟨_,rfl⟩
 rw [<-hXV] at hf
 rw [c3_131_wp]
 refine wp_seqK fun K1 hK1=>?_
 by_cases hlt':i<n
 ·have hlt:(i:Int)<(n:Int):=by omega
  simp (disch:=first|assumption|omega|(simp only [List.length_append,List.length_cons,List.length_nil];omega)) only [go_sem,hf,hlt]
  refine hK1 _ _ ?_
  rw [c3_130_wp]
  refine wp_seqK fun K2 hK2=>?_
  rw [c3_128_wp]
  show c3_127.wp Tryz.prog (BlockQ 1 (SeqQ (fun _=>K2) _)) _ _
  have next:∀ a3 s3,RSt base p hb t s hr tr sr st u n L (i+1) i a3 s3->K2 a3 s3:=by
   rintro a3 s3 ⟨K',X',k1',k2',nn',pg',old',hg,hl',hnn',hP',hS',hph'⟩
   refine hK2 _ _ ?_
   obtain ⟨KV',hKV'⟩:∃ KV',KV'=kv .u64 K':=⟨_,rfl⟩
   rw [<-hKV'] at hg
   obtain ⟨XV',hXV'⟩:∃ XV',XV'=X'.map AV.str:=⟨_,rfl⟩
   rw [<-hXV',← hEV] at hg
   simp (disch:=first|assumption|omega|(simp only [List.length_append,List.length_cons,List.length_nil];omega)) only [go_sem,hg,wi]
   refine ⟨i+1,by omega,by omega,K',X',k1',k2',nn',pg',old',?_,hl',hnn',hP',hS',hph'⟩
   rw [<-hKV',← hXV',← hEV]
   have ei:((i+1:Nat):Int)=(i:Int)+1:=by omega
   rw [ei]
   simp (disch:=first|assumption|omega|(simp only [List.length_append,List.length_cons,List.length_nil];omega)) only [go_sem,hg]
   try simp only [and_self]
  obtain ⟨e,he⟩:∃ e,L[i]? = some e:=⟨_,List.getElem?_eq_getElem (by omega)⟩
  have hke:=hL e (List.mem_of_getElem? he)
  rw [c3_127_wp]
  refine wp_seqK fun K3 hK3=>?_
  by_cases hb':i=n-u/\0<u
  ·have hbt:((i:Int)=(n:Int)-(u:Int))=True:=eq_true (by omega)
   have ho:old=none:=by
    rcases hph with ⟨h,_⟩|⟨_,h1,h2⟩
    ·exact h
    ·omega
   subst ho
   have hbg:=plbegin_ok hP
   simp (disch:=first|assumption|omega|(simp only [List.length_append,List.length_cons,List.length_nil];omega)) only [go_sem,hf,wu,hbt]
   refine hbg.mono ?_
   rintro v s3 ⟨rfl,h3⟩
   simp (disch:=first|assumption|omega|(simp only [List.length_append,List.length_cons,List.length_nil];omega)) only [go_sem,hf]
   refine hK3 _ _ ?_
   refine st_body (L:=L) (k1:=k1) (k2:=k2) hh ht hs ht2 h3 hS he hke hl hnn hun hn hlt' (.inr ⟨by omega,rfl⟩) ?_ (fun a3 s3 hr=>next a3 s3 hr) (fun a3 s3 hr=>next a3 s3 hr) fun a3 s3 hf3=>h0 a3 s3 hf3
   rw [<-hKV,← hXV,← hEV]
   simp (disch:=first|assumption|omega|(simp only [List.length_append,List.length_cons,List.length_nil];omega)) only [go_sem,hf]
   try simp only [and_self]
  ·have hbt:¬ ((i:Int)=(n:Int)-(u:Int)):=by omega
   simp (disch:=first|assumption|omega|(simp only [List.length_append,List.length_cons,List.length_nil];omega)) only [go_sem,hf,wu,hbt]
   refine hK3 _ _ ?_
   have hph2:(u=0\/i<n-u)/\old=none\/¬ (u=0\/i<n-u)/\old=some pg:=by
    rcases hph with ⟨h,h1⟩|⟨h,h1,h2⟩
    ·exact .inl ⟨by omega,h⟩
    ·exact .inr ⟨by omega,h⟩
   refine st_body (L:=L) (k1:=k1) (k2:=k2) hh ht hs ht2 hP hS he hke hl hnn hun hn hlt' hph2 ?_ (fun a3 s3 hr=>next a3 s3 hr) (fun a3 s3 hr=>next a3 s3 hr) fun a3 s3 hf3=>h0 a3 s3 hf3
   rw [<-hKV,← hXV,← hEV]
   simp (disch:=first|assumption|omega|(simp only [List.length_append,List.length_cons,List.length_nil];omega)) only [go_sem,hf]
   try simp only [and_self]
 ·have hlt:¬ (i:Int)<(n:Int):=by omega
  obtain rfl:i=n:=by omega
  simp (disch:=first|assumption|omega|(simp only [List.length_append,List.length_cons,List.length_nil];omega)) only [go_sem,hf,hlt]
  refine h0 _ _ ⟨K,X,k1,k2,?_,by omega,?_⟩
  ·rw [<-hKV,← hXV]
   simp (disch:=first|assumption|omega|(simp only [List.length_append,List.length_cons,List.length_nil];omega)) only [go_sem,hf]
   try simp only [and_self]
  ·rcases hph with ⟨rfl,h1⟩|⟨rfl,h1,h2⟩
   ·exact .inl ⟨by omega,nn,pg,hP,hS⟩
   ·exact .inr ⟨h1,hun,nn,pg,pg,hP,hS⟩
end
end Go.A
namespace Go.A
open Go.Proofs
theorem rootP_zero:RootP (List.replicate 504 0) 0:=⟨List.length_replicate,by decide,by omega,0,by omega,by decide⟩
theorem HpAt.start {pg:Pgs} {root:Nat} (h:pg root=some (List.replicate 504 0)):HpAt pg root (fun q=>q=root) (fun _=>none):=
 ⟨_,0,fun _=>none,h,rootP_zero,fun q=>⟨fun h => .inl h,fun h=>h.resolve_right fun h=>h rfl⟩,rfl,.inl rfl,fun q R h=>(by cases h),fun id=>rfl⟩
set_option maxHeartbeats 4000000 in
theorem TabularStores_any {σ:ASt} (hT:CkT σ) (F U:Int) (L:List En) (hL:∀ e∈L,e.key<18446744073709551616):ACalls Tryz.prog 3 [.int .i64 F,.int .i64 U,.sl .shr (L.map enAV)] σ fun v σ'=>v = .bool true/\σ'=σ:=by
 have hEl:(L.map enAV).length=L.length:=List.length_map _
 obtain ⟨EV,hEV⟩:∃ EV,EV=L.map enAV:=⟨_,rfl⟩
 rw [<-hEV] at hEl ⊢
 refine a3 (by simp) ?_
 simp (disch:=first|assumption|omega|(simp only [List.length_append,List.length_cons,List.length_nil];omega)) only [go_sem]
 refine (live_ok hT).mono ?_
 rintro w σ1 ⟨rfl,rfl⟩
 by_cases hF1:F<1
 ·simp (disch:=first|assumption|omega|(simp only [List.length_append,List.length_cons,List.length_nil];omega)) only [go_sem,hF1]
  exact retC_by (.refl _) (.refl _) ⟨rfl,rfl⟩
 by_cases hF2:F>6
 ·simp (disch:=first|assumption|omega|(simp only [List.length_append,List.length_cons,List.length_nil];omega)) only [go_sem,hF1,hF2]
  exact retC_by (.refl _) (.refl _) ⟨rfl,rfl⟩
 obtain ⟨f,rfl⟩:∃ f:Nat,F=f:=⟨F.toNat,by omega⟩
 simp (disch:=first|assumption|omega|(simp only [List.length_append,List.length_cons,List.length_nil];omega)) only [go_sem,hF1,hF2]
 refine (ddnew_ok hT 2000 (by omega) (by omega)).mono ?_
 rintro w σ2 ⟨d,rfl,h2⟩
 simp (disch:=first|assumption|omega|(simp only [List.length_append,List.length_cons,List.length_nil];omega)) only [go_sem]
 refine (plnew_ok h2 hT (F:=f) (by omega) (by omega)).mono ?_
 rintro w σ3 ⟨p,rfl,h3⟩
 simp (disch:=first|assumption|omega|(simp only [List.length_append,List.length_cons,List.length_nil];omega)) only [go_sem]
 refine (hpnew_ok h3 (by show ((1:Nat):Int)<2000;omega)).mono ?_
 rintro w σ4 ⟨hb,hr,rfl,hb0,⟨hr0,hr1,hr2⟩,h4⟩
 have k1:Kept σ1 (σ1.set hb (some (.obj [.ptr p 0,.int .i64 hr]))):=(Kept.refl σ1).set hb0
 have b1:=ASt.set_same σ1 hb (some (.obj [.ptr p 0,.int .i64 hr]))
 generalize σ1.set hb (some (.obj [.ptr p 0,.int .i64 hr]))=base1 at *
 simp (disch:=first|assumption|omega|(simp only [List.length_append,List.length_cons,List.length_nil];omega)) only [go_sem]
 refine (trnew_ok h4 (by show ((1+1:Nat):Int)<2000;omega)).mono ?_
 rintro w σ5 ⟨t,tr,tb,rfl,ht0,⟨tr0,tr1,tr2⟩,htl,h5⟩
 have k2:Kept base1 (base1.set t (some (.obj [.ptr p 0,.int .i64 tr]))):=(Kept.refl base1).set ht0
 have b2:=ASt.set_same base1 t (some (.obj [.ptr p 0,.int .i64 tr]))
 generalize base1.set t (some (.obj [.ptr p 0,.int .i64 tr]))=base2 at *
 simp (disch:=first|assumption|omega|(simp only [List.length_append,List.length_cons,List.length_nil];omega)) only [go_sem]
 refine (sqnew_l h5 (by show ((1+1+1:Nat):Int)+2<=2000;omega)).mono ?_
 rintro w σ6 ⟨s,t2,sr,st,base,c1,c2,rfl,k3,hs,ht2,⟨st0,sr0,hne⟩,hcl,hsl,h6⟩
 have hh:base hb=some (.obj [.ptr p 0,.int .i64 hr]):=k3 _ _ (k2 _ _ b1)
 have ht:base t=some (.obj [.ptr p 0,.int .i64 tr]):=k3 _ _ b2
 have hk:Kept σ1 base:=(k1.trans k2).trans k3
 have e1:tr≠hr:=fun e=>by rw [e,pset_same] at tr0;cases tr0
 have e2:sr≠tr:=fun e=>by rw [e,pset_same] at sr0;cases sr0
 have e3:st≠tr:=fun e=>by rw [e,pset_same] at st0;cases st0
 have e4:sr≠hr:=fun e=>by rw [e,pset_ne (Ne.symm e1),pset_same] at sr0;cases sr0
 have e5:st≠hr:=fun e=>by rw [e,pset_ne (Ne.symm e1),pset_same] at st0;cases st0
 have hS:StP (pset (pset (pset (pset (fun _=>none) hr (some (List.replicate 504 0))) tr (some tb)) st (some c1)) sr (some c2)) hr tr sr st [] []:=by
  refine ⟨_,_,fun _=>none,HpAt.start ?_,?_,⟨⟨c2,pset_same _ _ _,hsl⟩,⟨fun _=>none,?_,fun x=>rfl⟩,hne,List.nodup_nil,fun x hx=>(by cases hx)⟩,⟨e1,e4,e5⟩,⟨Ne.symm e2,Ne.symm e3⟩,fun k=>⟨fun h=>absurd rfl h,fun h=>(by cases h)⟩,fun i k h=>(by cases h),fun k k' id h=>(by cases h),rfl⟩
  ·rw [pset_ne (Ne.symm e4),pset_ne (Ne.symm e5),pset_ne (Ne.symm e1),pset_same]
  ·exact ⟨tb,[],[],by rw [pset_ne (Ne.symm e2),pset_ne (Ne.symm e3),pset_same],htl,List.Pairwise.nil,fun k=>rfl,rfl⟩
  ·exact ⟨c1,[],[],by rw [pset_ne (Ne.symm hne),pset_same],hcl,List.Pairwise.nil,fun k=>rfl,rfl⟩
 obtain ⟨n,hn⟩:∃ n:Nat,n=min L.length 20:=⟨_,rfl⟩
 have en:min (L.length:Int) 20=(n:Int):=by omega
 obtain ⟨u,hu⟩:∃ u:Nat,u=(min (max U 0) (n:Int)).toNat:=⟨_,rfl⟩
 have eu:min (max U 0) (n:Int)=(u:Int):=by omega
 simp (disch:=first|assumption|omega|(simp only [List.length_append,List.length_cons,List.length_nil];omega)) only [go_sem,hEl,en,eu]
 refine st_loop (L:=L) (u:=u) (n:=n) hh ht hs ht2 hL (by omega) (by omega) (by omega) (fun a3 s3 hf=>?_) ⟨[],[],.full,.full,1+1+1+2,_,none,?_,by simp,by omega,h6,hS,.inl ⟨rfl,by omega⟩⟩
 ·show c3_175.wp Tryz.prog _ a3 s3
  obtain ⟨K,X,q1,q2,hg,hl,hfin⟩:=hf
  exact st_tail hk hh ht hs ht2 hl hg hfin
 ·rw [<-hEV]
  simp (disch:=first|assumption|omega|(simp only [List.length_append,List.length_cons,List.length_nil];omega)) only [go_sem]
  try rfl
end Go.A
namespace Go.A
open Go.Proofs Go.Lib
inductive Step where
 | bad (k:Nat)
 | blank
 | tok (kind:Int) (text:List UInt8) (n:Nat)
 deriving DecidableEq
structure Tok where
 kind:Int
 text:List UInt8
 at':Nat
 col:Nat
 deriving DecidableEq
end Go.A
end
