/- Part 8 of what TabularNames leans on: Ns CodeNt Nt CodeNu Nu CodeNv Nv CodeNw Nw Nx CodeNy Ny CodeNz Nz CodeNza Nza CodeNzb Nzb. -/
import Derived.Test.YtppjmbcjifnmgaaGreatDoorProg
import Derived.KernelRfl
import Derived.Test.YtppjmbcjifnmgaaGreatDoorZTabularNamesg
set_option linter.defProp false
set_option linter.unusedSimpArgs false
set_option linter.unusedVariables false
set_option maxRecDepth 100000
section
attribute [local go_sem] reduceCtorEq Nat.reduceEqDiff Nat.reduceAdd Nat.reduceSub Nat.reduceMul Nat.reduceLeDiff Int.reduceLT Int.reduceLE Int.reduceEq Int.reduceNeg Int.reduceAdd Int.reduceSub Int.reduceMul true_imp_iff forall_const Nat.mul_one Int.reduceToNat Nat.reducePow Int.reducePow Bool.true_and Bool.false_and Bool.and_false
attribute [local go_sem ↓] reduceIte
namespace Go.A
open Go.Proofs
def kkOf:AV->SK
 | .msl _ _ _ _ => .shr
 | _ => .full
theorem OwnR.look' {σ0 σ σ':ASt} {k:IntKind} {v:AV} {l:List Nat} (h:OwnR σ0 σ k v l) (hn:∀ X,blkV v=some X->σ' X=none):Fz σ σ' v (.sl (kkOf v) (kv k l)):=by
 rcases h with ⟨rfl,rfl⟩|⟨X,c,R,rfl,h1,h2,h3,h4,h5⟩
 ·exact .refl _
 ·refine .msl (cs:=kv k l++R) 0 l.length c 1 (kv k l) h1 (hn X rfl) (kv_len k l).symm h3 (fun x hx=>by rw [kv_cells hx];rfl) ?_
  rw [kv_flat,List.drop_zero,Nat.mul_one,← kv_len k l,List.take_left]
section
variable {base base' σ σ':ASt} {p k page fa xa c t root n:Nat} {m:Int} {pg:Pgs} {dirty:Bool} {b:List UInt8} {nd:TN}
theorem OwnR.in {v:AV} {kk:IntKind} {l:List Nat} (h:OwnR base base' kk v l) {X:Nat} (hX:blkV v=some X):base X=none/\∃ r,base' X=some r:=by
 obtain ⟨⟨cs,h1⟩,h2⟩:=h.blk hX
 exact ⟨h2,_,h1⟩
open Classical in
theorem node_soft {x y:AV} {kx ky:IntKind} {lx ly:List Nat} {cs cs':List AV} (kept:Kept base base') (new:base n=none) (hn:base' n=some (.obj cs)) (hx:OwnR base base' kx x lx) (hy:OwnR base base' ky y ly)
  (nx:blkV x≠some n) (ny:blkV y≠some n) (hcb:CkT base) (hp:PoolAt base' σ p m k pg) (hcs:∀ σ2,Fz σ σ2 x (.sl (kkOf x) (kv kx lx))->Fz σ σ2 y (.sl (kkOf y) (kv ky ly))->Fzs σ σ2 cs cs') :
  ∃ σ2,GDrop σ σ2/\σ2 n=some (.obj cs')/\PoolAt (base.set n (some (.obj cs'))) σ2 p m k pg:=by
 have hσn:=hp.at hn
 obtain ⟨σ2,hσ2⟩:∃ σ2:ASt,σ2=fun z=>if z=n then some (.obj cs') else if blkV x=some z\/blkV y=some z then none else σ z:=⟨_,rfl⟩
 have e1:σ2 n=some (.obj cs'):=by rw [hσ2];exact if_pos rfl
 have e2:∀ z,z≠n->(blkV x=some z\/blkV y=some z)->σ2 z=none:=fun z hz hb=>by rw [hσ2];show (if _ then _ else _)=_;rw [if_neg hz,if_pos hb]
 have e3:∀ z,z≠n->¬ (blkV x=some z\/blkV y=some z)->σ2 z=σ z:=fun z hz hb=>by rw [hσ2];show (if _ then _ else _)=_;rw [if_neg hz,if_neg hb]
 have own:∀ {k:IntKind} {v:AV} {l:List Nat},OwnR base base' k v l->OwnR base σ k v l:=fun {k v l} ho=>ho.mono fun X r hX hr=>hp.at hr
 have hz:=hcs σ2 ((own hx).look' fun X hX=>e2 X (fun e=>nx (by rw [hX,e])) (.inl hX)) ((own hy).look' fun X hX=>e2 X (fun e=>ny (by rw [hX,e])) (.inr hX))
 have hblk:∀ z,(blkV x=some z\/blkV y=some z)->base z=none/\∃ r,base' z=some r:=fun z hb=>hb.elim (fun h=>hx.in h) (fun h=>hy.in h)
 refine ⟨σ2,fun z=>?_,e1,hp.frame ⟨fun z r h1 h2=>?_,fun z r h1=>?_,fun z r h1 h2=>?_⟩ ?_⟩
 ·by_cases hzn:z=n
  ·subst hzn
   exact .inr (.inr ⟨cs,cs',hσn,e1,hz⟩)
  ·by_cases hb:blkV x=some z\/blkV y=some z
   ·exact .inr (.inl (e2 z hzn hb))
   ·exact .inl (e3 z hzn hb)
 ·have hzn:z≠n:=fun e=>by rw [e,hn] at h1;cases h1
  have hb:¬ (blkV x=some z\/blkV y=some z):=fun hb=>by
   obtain ⟨_,r,h3⟩:=hblk z hb
   rw [h1] at h3;cases h3
  rw [e3 z hzn hb];exact h2
 ·by_cases hzn:z=n
  ·subst hzn
   rw [ASt.set_same] at h1
   rw [e1];exact h1
  ·rw [ASt.set_ne hzn] at h1
   have hb:¬ (blkV x=some z\/blkV y=some z):=fun hb=>by
    have:=(hblk z hb).1
    rw [h1] at this;cases this
   rw [e3 z hzn hb]
   exact hp.at (kept z r h1)
 ·have hzn:z≠n:=fun e=>by rw [e,hn] at h1;cases h1
  rw [ASt.set_ne hzn]
  cases hc:base z with
  | none=>rfl
  | some q=>rw [kept z q hc] at h1;cases h1
 ·exact hcb.away fun e=>by
   have:=hp.at (kept _ _ hcb)
   unfold CkT at hcb
   rw [<-e,new] at hcb;cases hcb
theorem LeafM.soft {x y:AV} {ks vs:List Nat} (h:LeafM base base' n x y ks vs) (hcb:CkT base) (hp:PoolAt base' σ p m k pg):∃ σ2 r,GDrop σ σ2/\NodeR r (.leaf ks vs)/\σ2 n=some r/\PoolAt (base.set n (some r)) σ2 p m k pg:=by
 obtain ⟨σ2,h1,h2,h3⟩:=node_soft (cs' := [.bool true,.sl (kkOf x) (kv .u64 ks),.sl (kkOf y) (kv .u64 vs),.sl .full []]) h.kept h.new h.hn h.ha h.hb h.na h.nb hcb hp fun σ2 f1 f2 => .cons (.refl _) (.cons f1 (.cons f2 (.cons (.refl _) .nil)))
 exact ⟨σ2,_,h1,⟨_,_,_,rfl⟩,h2,h3⟩
theorem InnerM.soft {x y:AV} {ks ds:List Nat} (h:InnerM base base' n x y ks ds) (hcb:CkT base) (hp:PoolAt base' σ p m k pg):∃ σ2 r,GDrop σ σ2/\NodeR r (.inner ks ds)/\σ2 n=some r/\PoolAt (base.set n (some r)) σ2 p m k pg:=by
 obtain ⟨σ2,h1,h2,h3⟩:=node_soft (cs' := [.bool false,.sl (kkOf x) (kv .u64 ks),.sl .full [],.sl (kkOf y) (kv .i64 ds)]) h.kept h.new h.hn h.ha h.hd h.na h.nd hcb hp fun σ2 f1 f2 => .cons (.refl _) (.cons f1 (.cons (.refl _) (.cons f2 .nil)))
 exact ⟨σ2,_,h1,⟨_,_,_,rfl⟩,h2,h3⟩
theorem trload_ok (h:PoolAt base σ p m k pg) (ht:base t=some (.obj [.ptr p 0,.int .i64 root])) (hq:pg page=some b) (hl:TPg b nd) :
  ACalls Tryz.prog 57 [.ptr t 0,.int .i64 page] σ fun r σ'=>∃ n q,r = .tuple [.ptr n 0,.int .i64 0]/\base n=none/\NodeR q nd/\PoolAt (base.set n (some q)) σ' p m k pg:=by
 cases nd with
 | leaf ks vs=>
   refine (trload_leafM h ht hq hl).post ?_
   rintro v σ1 ⟨n,x,y,base',rfl,hm,_,hp⟩
   obtain ⟨σ2,r,h1,h2,h3,h4⟩:=hm.soft h.ck hp
   exact ⟨_,σ2,h1.wkv (.refl _),n,r,rfl,hm.new,h2,h4⟩
 | inner ks ds=>
   refine (trload_innerM h ht hq hl).post ?_
   rintro v σ1 ⟨n,x,y,base',rfl,hm,_,hp⟩
   obtain ⟨σ2,r,h1,h2,h3,h4⟩:=hm.soft h.ck hp
   exact ⟨_,σ2,h1.wkv (.refl _),n,r,rfl,hm.new,h2,h4⟩
theorem ck_ne (h:CkT base) (hn:base n=none):n≠0:=fun e=>by
 unfold CkT at h
 rw [<-e,hn] at h;cases h
theorem trload_i (h:PoolAt base σ p m k pg) (ht:base t=some (.obj [.ptr p 0,.int .i64 root])) (hq:pg page=some b) (hl:TPg b nd) :
  ACalls Tryz.prog 57 [.ptr t 0,.int .i64 page] σ fun r σ'=>∃ cs,r = .tuple [.imm cs,.int .i64 0]/\NodeR (.obj cs) nd/\PoolAt base σ' p m k pg:=by
 refine (trload_ok h ht hq hl).post ?_
 rintro v σ1 ⟨n,q,rfl,hn,hr,hp⟩
 obtain ⟨cs,rfl⟩:∃ cs,q = .obj cs:=by
  cases nd with
  | leaf=>obtain ⟨_,_,_,rfl⟩:=hr;exact ⟨_,rfl⟩
  | inner=>obtain ⟨_,_,_,rfl⟩:=hr;exact ⟨_,rfl⟩
 have hσ:=hp.at (ASt.set_same base n (some (.obj cs)))
 have hd:Drop σ1 (σ1.set n none):=fun z=>by
  by_cases hz:z=n
  ·rw [hz,ASt.set_same];exact .inr rfl
  ·rw [ASt.set_ne hz];exact .inl rfl
 have h2:=hp.set (x:=n) none (.inl (by rw [ASt.set_same];simp)) (ck_ne h.ck hn)
 rw [set_none_id hn] at h2
 exact ⟨_,_,WkV.fz hd (.tuple (.cons (.ptr 0 hσ (ASt.set_same _ _ _)) (.cons (.refl _) .nil))),cs,rfl,hr,h2⟩
set_option maxHeartbeats 1000000 in
theorem trstore_ok {b0:List UInt8} (h:PoolAt base σ p m k pg) (ht:base t=some (.obj [.ptr p 0,.int .i64 root])) (hq:pg page=some b0) (hn:NodeOf base n nd) (ho:nd.ok) :
  ACalls Tryz.prog 64 [.ptr t 0,.int .i64 page,.ptr n 0] σ fun r σ'=>r = .int .i64 0/\∃ b',TPg b' nd/\PoolAt base σ' p m k (pset pg page (some b')):=by
 have hts:=h.at ht
 have hb0:=h.slen hq
 obtain ⟨rn,hn1,hn2⟩:=hn
 refine a64 (by simp) ?_
 simp (disch:=first|assumption|omega|(simp only [List.length_append,List.length_cons,List.length_nil];omega)) only [go_sem,hts]
 refine (plpin_ok h hq).mono ?_
 rintro v σ1 ⟨fa,xa,c,dirty,rfl,hxa,hck,hc,h1⟩
 have hnx:n≠xa:=fun e=>by rw [e,hxa] at hn1;cases hn1
 simp (disch:=first|assumption|omega|(simp only [List.length_append,List.length_cons,List.length_nil];omega)) only [go_sem]
 refine (pledit_ok h1).mono ?_
 rintro v σ2 ⟨rfl,h2⟩
 have hX:=h2.at (ASt.set_same base xa (some (.obj (bytesAV b0))))
 have hN:=h2.at ((ASt.set_ne (σ:=base) (r:=some (.obj (bytesAV b0))) hnx).trans hn1)
 simp (disch:=first|assumption|omega|(simp only [List.length_append,List.length_cons,List.length_nil];omega)) only [go_sem]
 refine (trenc_ok hX hb0 hc ⟨rn,hN,hn2⟩ hnx ho).mono ?_
 rintro v σ3 ⟨rfl,b',hb',rfl⟩
 have h3:=h2.set (x:=xa) (some (.obj (bytesAV b'))) (.inl (by rw [ASt.set_same];simp)) hck
 rw [ASt.set_set] at h3
 have hun:=plunpin_d h3 (ASt.set_same _ _ _) hb'.len (.inl rfl) hck
 rw [set_none_id hxa] at hun
 simp (disch:=first|assumption|omega|(simp only [List.length_append,List.length_cons,List.length_nil];omega)) only [go_sem]
 refine hun.mono ?_
 rintro v σ4 ⟨rfl,h4⟩
 exact retC_by (.refl _) (.refl _) ⟨rfl,b',hb',h4⟩
set_option maxHeartbeats 1000000 in
theorem trfresh_ok (h:PoolAt base σ p m k pg) (ht:base t=some (.obj [.ptr p 0,.int .i64 root])) (hroom:(k:Int)<m) (hn:NodeOf base n nd) (ho:nd.ok) :
  ACalls Tryz.prog 63 [.ptr t 0,.ptr n 0] σ fun r σ'=>∃ (q:Nat) (b':List UInt8),r = .tuple [.int .i64 q,.int .i64 0]/\pg q=none/\1<=q/\q<60000/\TPg b' nd/\PoolAt base σ' p m (k+1) (pset pg q (some b')):=by
 have hts:=h.at ht
 obtain ⟨rn,hn1,hn2⟩:=hn
 refine a63 (by simp) ?_
 simp (disch:=first|assumption|omega|(simp only [List.length_append,List.length_cons,List.length_nil];omega)) only [go_sem,hts]
 refine (pltake_ok h hroom).mono ?_
 rintro v σ1 ⟨q,fa,xa,c,dirty,rfl,hpq,hq1,hq2,hxa,hck,hc,h1⟩
 have hnx:n≠xa:=fun e=>by rw [e,hxa] at hn1;cases hn1
 simp (disch:=first|assumption|omega|(simp only [List.length_append,List.length_cons,List.length_nil];omega)) only [go_sem]
 refine (pledit_ok h1).mono ?_
 rintro v σ2 ⟨rfl,h2⟩
 have hX:=h2.at (ASt.set_same base xa (some (.obj (bytesAV (List.replicate 504 0)))))
 have hN:=h2.at ((ASt.set_ne (σ:=base) (r:=some (.obj (bytesAV (List.replicate 504 0)))) hnx).trans hn1)
 simp (disch:=first|assumption|omega|(simp only [List.length_append,List.length_cons,List.length_nil];omega)) only [go_sem]
 refine (trenc_ok hX List.length_replicate hc ⟨rn,hN,hn2⟩ hnx ho).mono ?_
 rintro v σ3 ⟨rfl,b',hb',rfl⟩
 have h3:=h2.set (x:=xa) (some (.obj (bytesAV b'))) (.inl (by rw [ASt.set_same];simp)) hck
 rw [ASt.set_set] at h3
 have hpp:pset (pset pg q (some (List.replicate 504 0))) q (some b')=pset pg q (some b'):=by
  funext z
  unfold pset
  split<;>rfl
 have hun:=plunpin_d h3 (ASt.set_same _ _ _) hb'.len (.inl rfl) hck
 rw [set_none_id hxa,hpp] at hun
 have hpage:=plpage_ok h3
 simp (disch:=first|assumption|omega|(simp only [List.length_append,List.length_cons,List.length_nil];omega)) only [go_sem]
 refine hpage.mono ?_
 rintro v σ4 ⟨rfl,rfl⟩
 simp (disch:=first|assumption|omega|(simp only [List.length_append,List.length_cons,List.length_nil];omega)) only [go_sem]
 refine hun.mono ?_
 rintro v σ4 ⟨rfl,h4⟩
 exact retC_by (.refl _) (.refl _) ⟨q,b',rfl,hpq,hq1,hq2,hb',h4⟩
end
end Go.A
namespace Go.A
open Go.Proofs
/-! 90: (*tabular/tree.node).full -/
def c90_3:ACode := .seq (.ops [ oq 2 (.mv (.v (.bool false)))]) (.seq (.ops [ oq 3 (.mv (.t 0)),oq 4 (.nc (.t 3)),oq 5 (.fa 1 (.t 4)),oq 6 (.ld none (.t 5)),oq 7 (.len (.t 6)),oq 8 (.bin .gtr (.t 7) (.v (.int .i64 30))),oq 9 (.mv (.t 8)),⟨some 10,some (9,false),.q (.mv (.t 0)),[]⟩,⟨some 11,some (9,false),.q (.nc (.t 10)),[]⟩,⟨some 12,some (9,false),.q (.fa 3 (.t 11)),[]⟩,⟨some 13,some (9,false),.q (.ld none (.t 12)),[]⟩,⟨some 14,some (9,false),.q (.len (.t 13)),[]⟩,⟨some 15,some (9,false),.q (.bin .gtr (.t 14) (.v (.int .i64 40))),[]⟩,oq 16 (.pick (.t 9) (.v (.bool true)) (.t 15)),oq 2 (.mv (.t 16))]) .ret)
@[go_sem] def c90_3_wp:=wp_of c90_3.eq_1
def c90:AFn:=⟨17,[.t 2],c90_3⟩
theorem c90_ok:compF Tryz.prog Tryz.f90=some c90:=by kernel_rfl
theorem a90 {args:List AV} {σ:ASt} {R:AV->ASt->Prop} (hl:args.length<=17) (h:c90_3.wp Tryz.prog (RetQ [.t 2] R) (init args) σ):ACalls Tryz.prog 90 args σ R:=acalls_of Tryz.func90 c90_ok hl h
/-! 91: (*tabular/tree.node).split -/
def c91_22:ACode := .seq (.seq (.ops [ oq 9 (.mv (.t 0)),oq 10 (.nc (.t 9)),oq 11 (.fa 0 (.t 10)),oq 12 (.ld none (.t 11))]) (.cond (.t 12) (.seq (.ops [ oq 13 (.mv (.t 0)),oq 14 (.nc (.t 13)),oq 15 (.fa 1 (.t 14)),oq 16 (.ld none (.t 15)),oq 17 (.len (.t 16)),oq 18 (.bin .quo (.t 17) (.v (.int .i64 2))),oq 4 (.mv (.t 18))]) (.seq (.ops [ oq 19 (.mv (.t 0)),oq 20 (.nc (.t 19)),oq 21 (.fa 1 (.t 20)),oq 22 (.ld none (.t 21)),oq 23 (.mv (.t 4)),oq 24 (.slfrom (false,1) (.t 22) (.t 23)),oq 26 (.mv (.t 0)),oq 27 (.nc (.t 26)),oq 28 (.fa 2 (.t 27)),oq 29 (.ld none (.t 28)),oq 30 (.mv (.t 4)),oq 31 (.slfrom (false,1) (.t 29) (.t 30)),⟨some 25,none,.e (.call 92 [(.t 24)]),[⟨none,.ld none (.t 28),29⟩]⟩,oe 32 (.call 92 [(.t 31)]),oq 33 (.build [(.bool false),(.sl .full []),(.sl .full []),(.sl .full [])] [(0,1,(.v (.bool true))),(1,1,(.t 25)),(2,1,(.t 32))]),oe 34 (.box (.t 33)),oq 5 (.mv (.t 34))]) (.seq (.ops [ oq 35 (.mv (.t 0)),oq 36 (.mv (.t 0)),oq 37 (.mv (.t 0)),oq 38 (.nc (.t 37)),oq 39 (.fa 1 (.t 38)),oq 40 (.ld none (.t 39)),oq 41 (.mv (.t 4)),oq 42 (.slto (false,1) (.t 40) (.t 41)),oq 43 (.mv (.t 0)),oq 44 (.nc (.t 43)),oq 45 (.fa 2 (.t 44)),oq 46 (.ld none (.t 45)),oq 47 (.mv (.t 4)),oq 48 (.slto (false,1) (.t 46) (.t 47)),oq 49 (.nc (.t 35)),oq 50 (.fa 1 (.t 49)),oz (.store 1 (.t 50) (.t 42)),oq 51 (.nc (.t 36)),oq 52 (.fa 2 (.t 51)),oz (.store 1 (.t 52) (.t 48))]) (.seq (.ops [ oq 53 (.mv (.t 5)),oq 54 (.mv (.t 5)),oq 55 (.nc (.t 54)),oq 56 (.fa 1 (.t 55)),oq 57 (.ld none (.t 56)),oq 58 (.ia 1 (.t 57) (.v (.int .i64 0))),oq 59 (.ld none (.t 58)),oq 2 (.mv (.t 53)),oq 3 (.mv (.t 59))]) .ret)))) .skip)) (.seq (.ops [ oq 60 (.mv (.t 0)),oq 61 (.nc (.t 60)),oq 62 (.fa 3 (.t 61)),oq 63 (.ld none (.t 62)),oq 64 (.len (.t 63)),oq 65 (.bin .quo (.t 64) (.v (.int .i64 2))),oq 6 (.mv (.t 65))]) (.seq (.ops [ oq 66 (.mv (.t 0)),oq 67 (.nc (.t 66)),oq 68 (.fa 1 (.t 67)),oq 69 (.ld none (.t 68)),oq 70 (.mv (.t 6)),oq 71 (.slfrom (false,1) (.t 69) (.t 70)),oq 73 (.mv (.t 0)),oq 74 (.nc (.t 73)),oq 75 (.fa 3 (.t 74)),oq 76 (.ld none (.t 75)),oq 77 (.mv (.t 6)),oq 78 (.slfrom (false,1) (.t 76) (.t 77)),⟨some 72,none,.e (.call 92 [(.t 71)]),[⟨none,.ld none (.t 75),76⟩]⟩,oe 79 (.call 93 [(.t 78)]),oq 80 (.build [(.bool false),(.sl .full []),(.sl .full []),(.sl .full [])] [(1,1,(.t 72)),(3,1,(.t 79))]),oe 81 (.box (.t 80)),oq 7 (.mv (.t 81))]) (.seq (.ops [ oq 82 (.mv (.t 0)),oq 83 (.nc (.t 82)),oq 84 (.fa 1 (.t 83)),oq 85 (.ld none (.t 84)),oq 86 (.mv (.t 6)),oq 87 (.bin .sub (.t 86) (.v (.int .i64 1))),oq 88 (.ia 1 (.t 85) (.t 87)),oq 89 (.ld none (.t 88)),oq 8 (.mv (.t 89))]) (.seq (.ops [ oq 90 (.mv (.t 0)),oq 91 (.mv (.t 0)),oq 92 (.mv (.t 0)),oq 93 (.nc (.t 92)),oq 94 (.fa 1 (.t 93)),oq 95 (.ld none (.t 94)),oq 96 (.mv (.t 6)),oq 97 (.bin .sub (.t 96) (.v (.int .i64 1))),oq 98 (.slto (false,1) (.t 95) (.t 97)),oq 99 (.mv (.t 0)),oq 100 (.nc (.t 99)),oq 101 (.fa 3 (.t 100)),oq 102 (.ld none (.t 101)),oq 103 (.mv (.t 6)),oq 104 (.slto (false,1) (.t 102) (.t 103)),oq 105 (.nc (.t 90)),oq 106 (.fa 1 (.t 105)),oz (.store 1 (.t 106) (.t 98)),oq 107 (.nc (.t 91)),oq 108 (.fa 3 (.t 107)),oz (.store 1 (.t 108) (.t 104))]) (.seq (.ops [ oq 109 (.mv (.t 7)),oq 110 (.mv (.t 8)),oq 2 (.mv (.t 109)),oq 3 (.mv (.t 110))]) .ret)))))
def c91_23:ACode := .seq (.ops [ oq 2 (.mv (.v .nilp)),oq 3 (.mv (.v (.int .u64 0)))]) c91_22
@[go_sem] def c91_22_wp:=wp_of c91_22.eq_1
@[go_sem] def c91_23_wp:=wp_of c91_23.eq_1
def c91:AFn:=⟨111,[.t 2,.t 3],c91_23⟩
theorem c91_ok:compF Tryz.prog Tryz.f91=some c91:=by kernel_rfl
theorem a91 {args:List AV} {σ:ASt} {R:AV->ASt->Prop} (hl:args.length<=111) (h:c91_23.wp Tryz.prog (RetQ [.t 2,.t 3] R) (init args) σ):ACalls Tryz.prog 91 args σ R:=acalls_of Tryz.func91 c91_ok hl h
end Go.A
namespace Go.A
open Go.Proofs
section
variable {base base' σ σ':ASt} {p k page fa xa c t root n:Nat} {m:Int} {pg:Pgs} {dirty:Bool} {b:List UInt8} {nd:TN} {r:Role} {ks vs ds:List Nat}
theorem trfull_leaf (hn:σ n=some r) (hr:NodeR r (.leaf ks vs)):ACalls Tryz.prog 90 [.ptr n 0] σ fun v σ'=>v = .bool (decide (30<ks.length))/\σ'=σ:=by
 obtain ⟨k1,k2,k3,rfl⟩:=hr
 have hkl:=kv_len .u64 ks
 generalize kv .u64 ks=KS at *
 refine a90 (by simp) ?_
 by_cases h:30<ks.length
 ·have h':(30:Int)<(ks.length:Int):=by omega
  rw [decide_eq_true h]
  simp (disch:=first|assumption|omega|(simp only [List.length_append,List.length_cons,List.length_nil];omega)) only [go_sem,hn,hkl,h']
  exact retC_by (.refl _) (.refl _) ⟨rfl,rfl⟩
 ·have h':¬ (30:Int)<(ks.length:Int):=by omega
  rw [decide_eq_false h]
  simp (disch:=first|assumption|omega|(simp only [List.length_append,List.length_cons,List.length_nil];omega)) only [go_sem,hn,hkl,h']
  exact retC_by (.refl _) (.refl _) ⟨rfl,rfl⟩
theorem trfull_inner (hn:σ n=some r) (hr:NodeR r (.inner ks ds)) (hk:ks.length<=30) (hd:ds.length<=40):ACalls Tryz.prog 90 [.ptr n 0] σ fun v σ'=>v = .bool false/\σ'=σ:=by
 obtain ⟨k1,k2,k3,rfl⟩:=hr
 have hkl:=kv_len .u64 ks
 have hdl:=kv_len .i64 ds
 generalize kv .u64 ks=KS at *
 generalize kv .i64 ds=DS at *
 refine a90 (by simp) ?_
 have h':¬ (30:Int)<(ks.length:Int):=by omega
 have h2:¬ (40:Int)<(ds.length:Int):=by omega
 simp (disch:=first|assumption|omega|(simp only [List.length_append,List.length_cons,List.length_nil];omega)) only [go_sem,hn,hkl,hdl,h',h2]
 exact retC_by (.refl _) (.refl _) ⟨rfl,rfl⟩
set_option maxHeartbeats 1000000 in
theorem trsplit_leaf (hn:σ n=some r) (hr:NodeR r (.leaf ks vs)) (hv:vs.length=ks.length) (h2:2<=ks.length) (hl:ks.length<=1000) {h:Nat} (hh:h=ks.length / 2) :
  ACalls Tryz.prog 91 [.ptr n 0] σ fun v σ'=>∃ (m:Nat) (r1 r2:Role) (key:Nat),v = .tuple [.ptr m 0,.int .u64 key]/\σ m=none/\ks[h]? = some key/\NodeR r1 (.leaf (ks.take h) (vs.take h))/\NodeR r2 (.leaf (ks.drop h) (vs.drop h))/\σ'=(σ.set m (some r2)).set n (some r1):=by
 obtain ⟨k1,k2,k3,rfl⟩:=hr
 have hkl:=kv_len .u64 ks
 have hvl:=kv_len .u64 vs
 obtain ⟨key,hkey⟩:∃ key,ks[h]? = some key:=⟨_,List.getElem?_eq_getElem (by omega)⟩
 have a1:slV (false,1) (.sl k1 (kv .u64 ks)) (h:Int) (ks.length:Int)=some (.sl .shr (kv .u64 (ks.drop h))):=slV_from (f:=fun (n:Nat)=>AV.int .u64 (n:Int)) (fun _=>rfl) (by omega)
 have a2:slV (false,1) (.sl k2 (kv .u64 vs)) (h:Int) (vs.length:Int)=some (.sl .shr (kv .u64 (vs.drop h))):=slV_from (f:=fun (n:Nat)=>AV.int .u64 (n:Int)) (fun _=>rfl) (by omega)
 have a3:slV (false,1) (.sl k1 (kv .u64 ks)) 0 (h:Int)=some (.sl .shr (kv .u64 (ks.take h))):=slV_to (f:=fun (n:Nat)=>AV.int .u64 (n:Int)) (by omega)
 have a4:slV (false,1) (.sl k2 (kv .u64 vs)) 0 (h:Int)=some (.sl .shr (kv .u64 (vs.take h))):=slV_to (f:=fun (n:Nat)=>AV.int .u64 (n:Int)) (by omega)
 have d1:ks.drop h ≠ []:=fun e=>by have:=congrArg List.length e;rw [List.length_drop,List.length_nil] at this;omega
 have d2:vs.drop h ≠ []:=fun e=>by have:=congrArg List.length e;rw [List.length_drop,List.length_nil] at this;omega
 have c1:=xClo64_ok .shr (σ:=σ) d1 (by rw [List.length_drop];omega)
 have c2:=xClo64_ok .shr (σ:=σ) d2 (by rw [List.length_drop];omega)
 have g0:(kv .u64 (ks.drop h))[0]? = some (.int .u64 key):=kv_get (by rw [List.getElem?_drop,Nat.add_zero];exact hkey)
 have e1:IntKind.wrap .i64 ((ks.length:Int).tdiv 2)=(h:Int):=by
  rw [Int.tdiv_eq_ediv_of_nonneg (by omega),show (ks.length:Int) / 2=(h:Int) by omega]
  rw [IntKind.wrap_i64]
  omega
 have hfin:NodeR (.obj [.bool true,.sl .shr (kv .u64 (ks.take h)),.sl .shr (kv .u64 (vs.take h)),.sl k3 []]) (.leaf (ks.take h) (vs.take h)):=⟨_,_,_,rfl⟩
 have hfin2:NodeR (.obj [.bool true,.sl .shr (kv .u64 (ks.drop h)),.sl .shr (kv .u64 (vs.drop h)),.sl .full []]) (.leaf (ks.drop h) (vs.drop h)):=⟨_,_,_,rfl⟩
 generalize kv .u64 (ks.drop h)=KD at *
 generalize kv .u64 (vs.drop h)=VD at *
 generalize kv .u64 (ks.take h)=KT at *
 generalize kv .u64 (vs.take h)=VT at *
 generalize kv .u64 ks=KS at *
 generalize kv .u64 vs=VS at *
 refine a91 (by simp) ?_
 simp (disch:=first|assumption|omega|(simp only [List.length_append,List.length_cons,List.length_nil];omega)) only [go_sem,hn,hkl,hvl,e1,a1,a2]
 refine c1.mono ?_
 rintro v σ1 ⟨rfl,rfl⟩
 simp (disch:=first|assumption|omega|(simp only [List.length_append,List.length_cons,List.length_nil];omega)) only [go_sem,hn]
 refine c2.mono ?_
 rintro v σ2 ⟨rfl,rfl⟩
 simp (disch:=first|assumption|omega|(simp only [List.length_append,List.length_cons,List.length_nil];omega)) only [go_sem]
 refine boxC_by rfl fun m hm=>?_
 have hmn:m≠n:=fun e=>by rw [e,hn] at hm;cases hm
 have hn1:=(ASt.set_ne (σ:=σ2) (r:=some (.obj [.bool true,.sl .shr KD,.sl .shr VD,.sl .full []])) (Ne.symm hmn)).trans hn
 simp (disch:=first|assumption|omega|(simp only [List.length_append,List.length_cons,List.length_nil];omega)) only [go_sem,hn1,a3,a4,g0]
 exact retC_by (.refl _) (.refl _) ⟨m,_,_,key,rfl,hm,hkey,hfin,hfin2,rfl⟩
theorem PoolAt.lessB (h:PoolAt base σ p m k pg) {v:AV} (hv:∀ X,blkV v=some X->base X≠none/\X≠0):PoolAt (lessB base v) (lessB σ v) p m k pg:=by
 unfold Go.A.lessB
 cases hb:blkV v with
 | none=>exact h
 | some X=>exact h.set none (.inl (hv X hb).1) (hv X hb).2
theorem node_hard {x y:AV} {kx ky:IntKind} {lx ly:List Nat} (hO:Only base base' (nodeB n x y)) (new:base n=none) {r0:Role} (hn:base' n=some r0) (hx:OwnR base base' kx x lx) (hy:OwnR base base' ky y ly)
  (nx:blkV x≠some n) (ny:blkV y≠some n) (ab:∀ X,blkV x=some X->blkV y≠some X) (hcb:CkT base) (hp:PoolAt base' σ p m k pg) (r:Role):PoolAt (base.set n (some r)) ((Go.A.lessB (Go.A.lessB σ x) y).set n (some r)) p m k pg:=by
 have h1:=hp.lessB (v:=x) fun X hX=>by
  obtain ⟨q1,q2,q3⟩:=hx.in hX
  exact ⟨by rw [q3];simp,ck_ne hcb q1⟩
 have h2:=h1.lessB (v:=y) fun X hX=>by
  obtain ⟨q1,q2,q3⟩:=hy.in hX
  exact ⟨by rw [lessB_eq (fun e=>ab X e hX),q3];simp,ck_ne hcb q1⟩
 have hnn:Go.A.lessB (Go.A.lessB base' x) y n=some r0:=by rw [lessB_eq ny,lessB_eq nx,hn]
 have h3:=h2.set (x:=n) (some r) (.inl (by rw [hnn];simp)) (ck_ne hcb new)
 have e:(Go.A.lessB (Go.A.lessB base' x) y).set n (some r)=base.set n (some r):=by
  funext z
  by_cases hz:z=n
  ·rw [hz,ASt.set_same,ASt.set_same]
  rw [ASt.set_ne hz,ASt.set_ne hz]
  by_cases hzy:blkV y=some z
  ·rw [lessB_no hzy,(hy.in hzy).1]
  rw [lessB_eq hzy]
  by_cases hzx:blkV x=some z
  ·rw [lessB_no hzx,(hx.in hzx).1]
  rw [lessB_eq hzx]
  exact hO z fun hq=>hq.elim hz (fun hq=>hq.elim hzx hzy)
 rw [e] at h3
 exact h3
theorem PoolAt.drop1 (h:PoolAt (base.set n (some r)) σ p m k pg) (hn:base n=none) (hc:CkT base):PoolAt base σ p m k pg:=
 h.less (fun x q hx=>by rw [ASt.set_ne (fun e=>by rw [e,hn] at hx;cases hx)];exact hx) hc
theorem u64L_ins {l:List Nat} {i x:Nat} (h:u64L l) (hx:x<18446744073709551616):u64L (insL l i x):=fun y hy=>by
 unfold insL at hy
 rw [List.mem_append,List.mem_cons] at hy
 rcases hy with hy|rfl|hy
 ·exact h y (List.mem_of_mem_take hy)
 ·exact hx
 ·exact h y (List.mem_of_mem_drop hy)
theorem u64L_set {l:List Nat} {i x:Nat} (h:u64L l) (hx:x<18446744073709551616):u64L (l.set i x):=fun y hy=>by
 rcases List.mem_or_eq_of_mem_set hy with hy|rfl
 ·exact h y hy
 ·exact hx
theorem u64L_take {l:List Nat} {i:Nat} (h:u64L l):u64L (l.take i):=fun y hy=>h y (List.mem_of_mem_take hy)
theorem u64L_drop {l:List Nat} {i:Nat} (h:u64L l):u64L (l.drop i):=fun y hy=>h y (List.mem_of_mem_drop hy)
theorem insL_len {l:List Nat} {i x:Nat} (h:i<=l.length):(insL l i x).length=l.length+1:=by
 unfold insL
 rw [List.length_append,List.length_cons,List.length_take,List.length_drop]
 omega
end
end Go.A
namespace Go.A
open Go.Proofs
/-! 62: (*tabular/tree.Tree).put -/
def c62_34:ACode := .cond (.t 43) (.seq (.ops [ oq 45 (.mv (.t 13)),oq 46 (.nc (.t 45)),oq 47 (.fa 1 (.t 46)),oq 48 (.ld none (.t 47)),oq 49 (.mv (.t 2)),oe 50 (.call 58 [(.t 48),(.t 49)]),oq 44 (.mv (.t 50)),oq 51 (.ext 0 (.t 44)),oq 52 (.ext 1 (.t 44)),oq 15 (.mv (.t 51)),oq 16 (.mv (.t 52))]) (.seq (.seq (.ops [ oq 53 (.mv (.t 16))]) (.cond (.t 53) (.seq (.ops [ oq 54 (.mv (.t 13)),oq 55 (.nc (.t 54)),oq 56 (.fa 2 (.t 55)),oq 57 (.ld none (.t 56)),oq 58 (.mv (.t 15)),oq 59 (.mv (.t 3)),oq 60 (.ia 1 (.t 57) (.t 58)),oz (.store 1 (.t 60) (.t 59))]) (.seq (.ops [ oq 61 (.mv (.t 0)),oq 62 (.mv (.t 1)),oq 63 (.mv (.t 13)),oe 64 (.call 64 [(.t 61),(.t 62),(.t 63)]),oq 10 (.mv (.v (.int .i64 0))),oq 11 (.mv (.v (.int .u64 0))),oq 12 (.mv (.t 64))]) .ret)) .skip)) (.ops [ oq 65 (.mv (.t 13)),oq 66 (.mv (.t 13)),oq 67 (.mv (.t 13)),oq 68 (.nc (.t 67)),oq 69 (.fa 1 (.t 68)),oq 70 (.ld none (.t 69)),oq 71 (.mv (.t 15)),oq 72 (.mv (.t 2)),oq 73 (.bslv 1 [(.t 72)]),oq 75 (.mv (.t 13)),oq 76 (.nc (.t 75)),oq 77 (.fa 2 (.t 76)),oq 78 (.ld none (.t 77)),oq 79 (.mv (.t 15)),oq 80 (.mv (.t 3)),oq 81 (.bslv 1 [(.t 80)]),⟨some 74,none,.e (.call 30 [(.t 70),(.t 71),(.t 73)]),[⟨none,.ld none (.t 77),78⟩]⟩,oe 82 (.call 30 [(.t 78),(.t 79),(.t 81)]),oq 83 (.nc (.t 65)),oq 84 (.fa 1 (.t 83)),oz (.store 1 (.t 84) (.t 74)),oq 85 (.nc (.t 66)),oq 86 (.fa 2 (.t 85)),oz (.store 1 (.t 86) (.t 82))]))) (.seq (.ops [ oq 87 (.mv (.t 13)),oq 88 (.mv (.t 2)),oe 89 (.call 59 [(.t 87),(.t 88)]),oq 17 (.mv (.t 89))]) (.seq (.ops [ oq 91 (.mv (.t 0)),oq 92 (.mv (.t 13)),oq 93 (.nc (.t 92)),oq 94 (.fa 3 (.t 93)),oq 95 (.ld none (.t 94)),oq 96 (.mv (.t 17)),oq 97 (.ia 1 (.t 95) (.t 96)),oq 98 (.ld none (.t 97)),oq 99 (.mv (.t 2)),oq 100 (.mv (.t 3)),oq 101 (.mv (.t 4)),oq 102 (.bin .add (.t 101) (.v (.int .i64 1))),oe 103 (.call 62 [(.t 91),(.t 98),(.t 99),(.t 100),(.t 102)]),oq 90 (.mv (.t 103)),oq 104 (.ext 0 (.t 90)),oq 105 (.ext 1 (.t 90)),oq 106 (.ext 2 (.t 90)),oq 18 (.mv (.t 104)),oq 19 (.mv (.t 105)),oq 20 (.mv (.t 106))]) (.seq (.seq (.ops [ oq 107 (.mv (.t 20)),oq 108 (.bin .neq (.t 107) (.v (.int .i64 0))),oq 109 (.mv (.t 108)),⟨some 110,some (109,false),.q (.mv (.t 18)),[]⟩,⟨some 111,some (109,false),.q (.bin .eql (.t 110) (.v (.int .i64 0))),[]⟩,oq 112 (.pick (.t 109) (.v (.bool true)) (.t 111))]) (.cond (.t 112) (.seq (.ops [ oq 113 (.mv (.t 20)),oq 10 (.mv (.v (.int .i64 0))),oq 11 (.mv (.v (.int .u64 0))),oq 12 (.mv (.t 113))]) .ret) .skip)) (.ops [ oq 114 (.mv (.t 13)),oq 115 (.mv (.t 13)),oq 116 (.mv (.t 13)),oq 117 (.nc (.t 116)),oq 118 (.fa 1 (.t 117)),oq 119 (.ld none (.t 118)),oq 120 (.mv (.t 17)),oq 121 (.mv (.t 19)),oq 122 (.bslv 1 [(.t 121)]),oq 124 (.mv (.t 13)),oq 125 (.nc (.t 124)),oq 126 (.fa 3 (.t 125)),oq 127 (.ld none (.t 126)),oq 128 (.mv (.t 17)),oq 129 (.bin .add (.t 128) (.v (.int .i64 1))),oq 130 (.mv (.t 18)),oq 131 (.bslv 1 [(.t 130)]),⟨some 123,none,.e (.call 30 [(.t 119),(.t 120),(.t 122)]),[⟨none,.ld none (.t 126),127⟩]⟩,oe 132 (.call 72 [(.t 127),(.t 129),(.t 131)]),oq 133 (.nc (.t 114)),oq 134 (.fa 1 (.t 133)),oz (.store 1 (.t 134) (.t 123)),oq 135 (.nc (.t 115)),oq 136 (.fa 3 (.t 135)),oz (.store 1 (.t 136) (.t 132))]))))
def c62_60:ACode := .seq (.ops [ oq 10 (.mv (.v (.int .i64 0))),oq 11 (.mv (.v (.int .u64 0))),oq 12 (.mv (.v (.int .i64 0)))]) (.seq (.ops [ oq 26 (.mv (.t 0)),oq 27 (.mv (.t 1)),oe 28 (.call 57 [(.t 26),(.t 27)]),oq 25 (.mv (.t 28)),oq 29 (.ext 0 (.t 25)),oq 30 (.ext 1 (.t 25)),oq 13 (.mv (.t 29)),oq 14 (.mv (.t 30))]) (.seq (.seq (.ops [ oq 31 (.mv (.t 14)),oq 32 (.bin .eql (.t 31) (.v (.int .i64 0))),oq 33 (.mv (.t 32)),⟨some 34,some (33,true),.q (.mv (.t 4)),[]⟩,⟨some 35,some (33,true),.q (.bin .gtr (.t 34) (.v (.int .i64 20))),[]⟩,oq 36 (.pick (.t 33) (.t 35) (.v (.bool false)))]) (.cond (.t 36) (.ops [ oq 14 (.mv (.v (.int .i64 3)))]) .skip)) (.seq (.seq (.ops [ oq 37 (.mv (.t 14)),oq 38 (.bin .neq (.t 37) (.v (.int .i64 0)))]) (.cond (.t 38) (.seq (.ops [ oq 39 (.mv (.t 14)),oq 10 (.mv (.v (.int .i64 0))),oq 11 (.mv (.v (.int .u64 0))),oq 12 (.mv (.t 39))]) .ret) .skip)) (.seq (.seq (.ops [ oq 40 (.mv (.t 13)),oq 41 (.nc (.t 40)),oq 42 (.fa 0 (.t 41)),oq 43 (.ld none (.t 42))]) c62_34) (.seq (.seq (.ops [ oq 137 (.mv (.t 13)),oe 138 (.call 90 [(.t 137)]),oq 139 (.un .not (.t 138))]) (.cond (.t 139) (.seq (.ops [ oq 140 (.mv (.t 0)),oq 141 (.mv (.t 1)),oq 142 (.mv (.t 13)),oe 143 (.call 64 [(.t 140),(.t 141),(.t 142)]),oq 10 (.mv (.v (.int .i64 0))),oq 11 (.mv (.v (.int .u64 0))),oq 12 (.mv (.t 143))]) .ret) .skip)) (.seq (.ops [ oq 145 (.mv (.t 13)),oe 146 (.call 91 [(.t 145)]),oq 144 (.mv (.t 146)),oq 147 (.ext 0 (.t 144)),oq 148 (.ext 1 (.t 144)),oq 21 (.mv (.t 147)),oq 22 (.mv (.t 148))]) (.seq (.seq (.ops [ oq 149 (.mv (.t 0)),oq 150 (.mv (.t 1)),oq 151 (.mv (.t 13)),oe 152 (.call 64 [(.t 149),(.t 150),(.t 151)]),oq 23 (.mv (.t 152))]) (.seq (.ops [ oq 153 (.mv (.t 23)),oq 154 (.bin .neq (.t 153) (.v (.int .i64 0)))]) (.cond (.t 154) (.seq (.ops [ oq 155 (.mv (.t 23)),oq 10 (.mv (.v (.int .i64 0))),oq 11 (.mv (.v (.int .u64 0))),oq 12 (.mv (.t 155))]) .ret) .skip))) (.seq (.ops [ oq 157 (.mv (.t 0)),oq 158 (.mv (.t 21)),oe 159 (.call 63 [(.t 157),(.t 158)]),oq 156 (.mv (.t 159)),oq 160 (.ext 0 (.t 156)),oq 161 (.ext 1 (.t 156)),oq 24 (.mv (.t 160)),oq 14 (.mv (.t 161))]) (.seq (.ops [ oq 162 (.mv (.t 24)),oq 163 (.mv (.t 22)),oq 164 (.mv (.t 14)),oq 10 (.mv (.t 162)),oq 11 (.mv (.t 163)),oq 12 (.mv (.t 164))]) .ret)))))))))
@[go_sem] def c62_34_wp:=wp_of c62_34.eq_1
@[go_sem] def c62_60_wp:=wp_of c62_60.eq_1
def c62:AFn:=⟨165,[.t 10,.t 11,.t 12],c62_60⟩
theorem c62_ok:compF Tryz.prog Tryz.f62=some c62:=by kernel_rfl
theorem a62 {args:List AV} {σ:ASt} {R:AV->ASt->Prop} (hl:args.length<=165) (h:c62_60.wp Tryz.prog (RetQ [.t 10,.t 11,.t 12] R) (init args) σ):ACalls Tryz.prog 62 args σ R:=acalls_of Tryz.func62 c62_ok hl h
end Go.A
namespace Go.A
open Go.Proofs
section
variable {base base' σ σ':ASt} {p k page fa xa c t root n:Nat} {m:Int} {pg:Pgs} {dirty:Bool} {b:List UInt8} {nd:TN} {r:Role} {ks vs ds:List Nat}
theorem kv_put {kk:IntKind} {l:List Nat} {R:List AV} {i v:Nat} (hi:i<l.length):List.take i (kv kk l++R) ++ [.int kk v]++List.drop (i+1) (kv kk l++R)=kv kk (l.set i v)++R:=by
 have hk:=kv_len kk l
 rw [List.take_append_of_le_length (by omega),List.drop_append_of_le_length (by omega),List.set_eq_take_append_cons_drop,if_pos hi,kv_app,kv_cons,kv_take,kv_drop]
 simp only [List.append_assoc,List.cons_append,List.nil_append]
theorem LeafM.put {x:AV} {Y c i v:Nat} {R:List AV} (h:LeafM base base' n x (.msl Y 0 vs.length c) ks vs) (hY:base' Y=some (.obj (kv .u64 vs++R))) (hc:vs.length<=c/\c<=vs.length+R.length/\leaves R=true) :
  LeafM base (base'.set Y (some (.obj (kv .u64 (vs.set i v)++R)))) n x (.msl Y 0 vs.length c) ks (vs.set i v):=by
 have hYn:=(h.hb.in rfl).1
 have hlen:(vs.set i v).length=vs.length:=List.length_set
 refine ⟨h.kept.set hYn,h.new,?_,h.ha.set (fun e=>h.ab Y e rfl),.inr ⟨Y,c,R,by rw [hlen],ASt.set_same _ _ _,hYn,by rw [hlen];exact hc.1,by rw [hlen];exact hc.2.1,hc.2.2⟩,h.na,h.nb,h.ab⟩
 rw [ASt.set_ne (fun e=>h.nb (by rw [e];rfl))]
 exact h.hn
set_option maxHeartbeats 1000000 in
theorem trput_found (h:PoolAt base σ p m k pg) (ht:base t=some (.obj [.ptr p 0,.int .i64 root])) (hq:pg page=some b) (hl:TLeaf b ks vs) (hs:ks.Pairwise (· < ·)) {key v deep:Nat} (hv:v<18446744073709551616) (hd:deep<=20)
  (hf:ks[lowI ks key]? = some key) :
  ACalls Tryz.prog 62 [.ptr t 0,.int .i64 page,.int .u64 key,.int .u64 v,.int .i64 deep] σ fun r σ'=>r = .tuple [.int .i64 0,.int .u64 0,.int .i64 0]/\∃ b',TLeaf b' ks (vs.set (lowI ks key) v)/\PoolAt base σ' p m k (pset pg page (some b')):=by
 have hd':¬ (20:Int)<(deep:Int):=by omega
 have hts:=h.at ht
 refine a62 (by simp) ?_
 simp (disch:=first|assumption|omega|(simp only [List.length_append,List.length_cons,List.length_nil];omega)) only [go_sem,hts]
 refine (trload_leafM h ht hq hl).mono ?_
 rintro w σ1 ⟨n,x,y,base1,rfl,hm,hO,hp⟩
 have hn:=hp.at hm.hn
 have hbin:=(hm.ha.mono (σ':=σ1) fun X r _ hX=>hp.at hX).bin64 (t:=key) (by have:=hl.most;omega) hs
 rw [decide_eq_true hf] at hbin
 simp (disch:=first|assumption|omega|(simp only [List.length_append,List.length_cons,List.length_nil];omega)) only [go_sem,hn,hd']
 refine hbin.mono ?_
 rintro w σ2 ⟨rfl,rfl⟩
 obtain ⟨Y,c,R,rfl,hY1,hY2,hY3,hY4,hY5⟩:∃ Y c R,y = .msl Y 0 vs.length c/\base1 Y=some (.obj (kv .u64 vs++R))/\base Y=none/\vs.length<=c/\c<=vs.length+R.length/\leaves R=true:=by
  rcases hm.hb with ⟨rfl,rfl⟩|hb
  ·have:=(List.getElem?_eq_some_iff.1 hf).1
   have:=hl.n
   simp only [List.length_nil] at this
   omega
  ·exact hb
 have hY:=hp.at hY1
 have hiv:lowI ks key<vs.length:=by have:=(List.getElem?_eq_some_iff.1 hf).1;have:=hl.n;omega
 generalize lowI ks key=i at *
 have hlt:(i:Int)<(vs.length:Int):=by omega
 have hst:i+1<=(kv .u64 vs).length+R.length:=by rw [kv_len];omega
 simp (disch:=first|assumption|omega|(simp only [List.length_append,List.length_cons,List.length_nil];omega)) only [go_sem,hn,hY,hlt,hst,Int.toNat_natCast,Nat.zero_add]
 rw [kv_put hiv]
 have hm2:=hm.put (i:=i) (v:=v) hY1 ⟨hY3,hY4,hY5⟩
 have hp2:=hp.set (x:=Y) (some (.obj (kv .u64 (vs.set i v)++R))) (.inl (by rw [hY1];simp)) (ck_ne h.ck hY2)
 obtain ⟨σ3,r3,g1,g2,g3,g4⟩:=hm2.soft h.ck hp2
 have htn:t≠n:=fun e=>by rw [e,hm.new] at ht;cases ht
 have hst2:=trstore_ok (nd := .leaf ks (vs.set i v)) g4 ((ASt.set_ne htn).trans ht) hq ⟨r3,ASt.set_same _ _ _,g2⟩ ⟨by rw [List.length_set];exact hl.n,hl.most,hl.ku,u64L_set hl.vu hv⟩
 refine (hst2.wk g1.wk).mono ?_
 rintro w σ4 ⟨rfl,b',hb',h4⟩
 simp (disch:=first|assumption|omega|(simp only [List.length_append,List.length_cons,List.length_nil];omega)) only [go_sem]
 exact retC_by (.refl _) (.refl _) ⟨rfl,b',hb',h4.drop1 hm.new h.ck⟩
set_option maxHeartbeats 1000000 in
theorem trput_ins (h:PoolAt base σ p m k pg) (ht:base t=some (.obj [.ptr p 0,.int .i64 root])) (hq:pg page=some b) (hl:TLeaf b ks vs) (hs:ks.Pairwise (· < ·)) {key v deep:Nat} (hk:key<18446744073709551616) (hv:v<18446744073709551616) (hd:deep<=20)
  (hf:ks[lowI ks key]? ≠ some key) (h29:ks.length<30) :
  ACalls Tryz.prog 62 [.ptr t 0,.int .i64 page,.int .u64 key,.int .u64 v,.int .i64 deep] σ fun r σ'=>r = .tuple [.int .i64 0,.int .u64 0,.int .i64 0]/\∃ b',TLeaf b' (insL ks (lowI ks key) key) (insL vs (lowI ks key) v)/\PoolAt base σ' p m k (pset pg page (some b')):=by
 have hd':¬ (20:Int)<(deep:Int):=by omega
 have hts:=h.at ht
 have hle:=lowI_le ks key
 have hn0:=hl.n
 have hmost:=hl.most
 refine a62 (by simp) ?_
 simp (disch:=first|assumption|omega|(simp only [List.length_append,List.length_cons,List.length_nil];omega)) only [go_sem,hts]
 refine (trload_leafM h ht hq hl).mono ?_
 rintro w σ1 ⟨n,x,y,base1,rfl,hm,hO,hp⟩
 have hn:=hp.at hm.hn
 have own:∀ {k:IntKind} {v:AV} {l:List Nat},OwnR base base1 k v l->OwnR base σ1 k v l:=fun {k v l} ho=>ho.mono fun X r hX hr=>hp.at hr
 have hbin:=(own hm.ha).bin64 (t:=key) (by omega) hs
 rw [decide_eq_false hf] at hbin
 simp (disch:=first|assumption|omega|(simp only [List.length_append,List.length_cons,List.length_nil];omega)) only [go_sem,hn,hd']
 refine hbin.mono ?_
 rintro w σ2 ⟨rfl,rfl⟩
 generalize lowI ks key=i at *
 have hi1:=(own hm.ha).ins64 (i:=i) (x:=key) hle (by omega)
 have hb2:OwnR base (lessB σ2 x) .u64 y vs:=(own hm.hb).mono fun X r hX hr=>by rw [lessB_eq (fun e=>hm.ab X e hX)];exact hr
 have hi2:=hb2.ins64 (i:=i) (x:=v) (by omega) (by omega)
 have hlen:(insL ks i key).length=ks.length+1:=insL_len hle
 have hlen2:(insL vs i v).length=ks.length+1:=by rw [insL_len (by omega),hn0]
 have hku:u64L (insL ks i key):=u64L_ins hl.ku hk
 have hvu:u64L (insL vs i v):=u64L_ins hl.vu hv
 have hxn:=node_hard hO hm.new hm.hn hm.ha hm.hb hm.na hm.nb hm.ab h.ck hp (.obj [.bool true,.sl .shr (kv .u64 (insL ks i key)),.sl .shr (kv .u64 (insL vs i v)),.sl .full []])
 have hr:NodeR (.obj [.bool true,.sl .shr (kv .u64 (insL ks i key)),.sl .shr (kv .u64 (insL vs i v)),.sl .full []]) (.leaf (insL ks i key) (insL vs i v)):=⟨_,_,_,rfl⟩
 generalize insL ks i key=ks' at *
 generalize insL vs i v=vs' at *
 have hcx:=hm.ha.cell
 have hcy:=hm.hb.cell
 simp (disch:=first|assumption|omega|(simp only [List.length_append,List.length_cons,List.length_nil];omega)) only [go_sem,hn]
 refine hi1.mono ?_
 rintro w σ3 ⟨rfl,rfl⟩
 have hn3:lessB σ2 x n=some (.obj [.bool true,x,y,.sl .full []]):=(lessB_eq hm.na).trans hn
 simp (disch:=first|assumption|omega|(simp only [List.length_append,List.length_cons,List.length_nil];omega)) only [go_sem,hn3]
 refine hi2.mono ?_
 rintro w σ4 ⟨rfl,rfl⟩
 have hn4:lessB (lessB σ2 x) y n=some (.obj [.bool true,x,y,.sl .full []]):=(lessB_eq hm.nb).trans hn3
 simp (disch:=first|assumption|omega|(simp only [List.length_append,List.length_cons,List.length_nil];omega)) only [go_sem,hn4,hcx,hcy]
 have hset:((lessB (lessB σ2 x) y).set n (some (.obj [.bool true,.sl .shr (kv .u64 ks'),.sl .shr (kv .u64 vs'),.sl .full []]))) n=some (.obj [.bool true,.sl .shr (kv .u64 ks'),.sl .shr (kv .u64 vs'),.sl .full []]):=ASt.set_same _ _ _
 generalize (lessB (lessB σ2 x) y).set n (some (.obj [.bool true,.sl .shr (kv .u64 ks'),.sl .shr (kv .u64 vs'),.sl .full []]))=σ5 at *
 have htn:t≠n:=fun e=>by rw [e,hm.new] at ht;cases ht
 have ht5:=(ASt.set_ne (σ:=base) (r:=some (.obj [.bool true,.sl .shr (kv .u64 ks'),.sl .shr (kv .u64 vs'),.sl .full []])) htn).trans ht
 refine (trfull_leaf hset hr).mono ?_
 rintro w σ6 ⟨rfl,rfl⟩
 rw [decide_eq_false (by omega)]
 simp (disch:=first|assumption|omega|(simp only [List.length_append,List.length_cons,List.length_nil];omega)) only [go_sem]
 refine (trstore_ok (nd := .leaf ks' vs') hxn ht5 hq ⟨_,ASt.set_same _ _ _,hr⟩ ⟨by omega,by omega,hku,hvu⟩).mono ?_
 rintro w σ7 ⟨rfl,b',hb',h7⟩
 simp (disch:=first|assumption|omega|(simp only [List.length_append,List.length_cons,List.length_nil];omega)) only [go_sem]
 exact retC_by (.refl _) (.refl _) ⟨rfl,b',hb',h7.drop1 hm.new h.ck⟩
set_option maxHeartbeats 1000000 in
theorem trput_split (h:PoolAt base σ p m k pg) (ht:base t=some (.obj [.ptr p 0,.int .i64 root])) (hroom:(k:Int)<m) (hq:pg page=some b) (hl:TLeaf b ks vs) (hs:ks.Pairwise (· < ·)) {key v deep:Nat} (hk:key<18446744073709551616) (hv:v<18446744073709551616) (hd:deep<=20)
  (hf:ks[lowI ks key]? ≠ some key) (h29:ks.length=30) :
  ACalls Tryz.prog 62 [.ptr t 0,.int .i64 page,.int .u64 key,.int .u64 v,.int .i64 deep] σ fun r σ'=>∃ (q:Nat) (mid:Nat) (b1 b2:List UInt8),r = .tuple [.int .i64 q,.int .u64 mid,.int .i64 0]/\(insL ks (lowI ks key) key)[15]? = some mid/\pg q=none/\1<=q/\q<60000 ∧
   TLeaf b1 ((insL ks (lowI ks key) key).take 15) ((insL vs (lowI ks key) v).take 15)/\TLeaf b2 ((insL ks (lowI ks key) key).drop 15) ((insL vs (lowI ks key) v).drop 15)/\PoolAt base σ' p m (k+1) (pset (pset pg page (some b1)) q (some b2)):=by
 have hd':¬ (20:Int)<(deep:Int):=by omega
 have hts:=h.at ht
 have hle:=lowI_le ks key
 have hn0:=hl.n
 have hmost:=hl.most
 refine a62 (by simp) ?_
 simp (disch:=first|assumption|omega|(simp only [List.length_append,List.length_cons,List.length_nil];omega)) only [go_sem,hts]
 refine (trload_leafM h ht hq hl).mono ?_
 rintro w σ1 ⟨n,x,y,base1,rfl,hm,hO,hp⟩
 have hn:=hp.at hm.hn
 have own:∀ {k:IntKind} {v:AV} {l:List Nat},OwnR base base1 k v l->OwnR base σ1 k v l:=fun {k v l} ho=>ho.mono fun X r hX hr=>hp.at hr
 have hbin:=(own hm.ha).bin64 (t:=key) (by omega) hs
 rw [decide_eq_false hf] at hbin
 simp (disch:=first|assumption|omega|(simp only [List.length_append,List.length_cons,List.length_nil];omega)) only [go_sem,hn,hd']
 refine hbin.mono ?_
 rintro w σ2 ⟨rfl,rfl⟩
 generalize lowI ks key=i at *
 have hi1:=(own hm.ha).ins64 (i:=i) (x:=key) hle (by omega)
 have hb2:OwnR base (lessB σ2 x) .u64 y vs:=(own hm.hb).mono fun X r hX hr=>by rw [lessB_eq (fun e=>hm.ab X e hX)];exact hr
 have hi2:=hb2.ins64 (i:=i) (x:=v) (by omega) (by omega)
 have hlen:(insL ks i key).length=ks.length+1:=insL_len hle
 have hlen2:(insL vs i v).length=ks.length+1:=by rw [insL_len (by omega),hn0]
 have hku:u64L (insL ks i key):=u64L_ins hl.ku hk
 have hvu:u64L (insL vs i v):=u64L_ins hl.vu hv
 have hxn:=node_hard hO hm.new hm.hn hm.ha hm.hb hm.na hm.nb hm.ab h.ck hp (.obj [.bool true,.sl .shr (kv .u64 (insL ks i key)),.sl .shr (kv .u64 (insL vs i v)),.sl .full []])
 have hr:NodeR (.obj [.bool true,.sl .shr (kv .u64 (insL ks i key)),.sl .shr (kv .u64 (insL vs i v)),.sl .full []]) (.leaf (insL ks i key) (insL vs i v)):=⟨_,_,_,rfl⟩
 generalize insL ks i key=ks' at *
 generalize insL vs i v=vs' at *
 have hcx:=hm.ha.cell
 have hcy:=hm.hb.cell
 simp (disch:=first|assumption|omega|(simp only [List.length_append,List.length_cons,List.length_nil];omega)) only [go_sem,hn]
 refine hi1.mono ?_
 rintro w σ3 ⟨rfl,rfl⟩
 have hn3:lessB σ2 x n=some (.obj [.bool true,x,y,.sl .full []]):=(lessB_eq hm.na).trans hn
 simp (disch:=first|assumption|omega|(simp only [List.length_append,List.length_cons,List.length_nil];omega)) only [go_sem,hn3]
 refine hi2.mono ?_
 rintro w σ4 ⟨rfl,rfl⟩
 have hn4:lessB (lessB σ2 x) y n=some (.obj [.bool true,x,y,.sl .full []]):=(lessB_eq hm.nb).trans hn3
 simp (disch:=first|assumption|omega|(simp only [List.length_append,List.length_cons,List.length_nil];omega)) only [go_sem,hn4,hcx,hcy]
 have hset:((lessB (lessB σ2 x) y).set n (some (.obj [.bool true,.sl .shr (kv .u64 ks'),.sl .shr (kv .u64 vs'),.sl .full []]))) n=some (.obj [.bool true,.sl .shr (kv .u64 ks'),.sl .shr (kv .u64 vs'),.sl .full []]):=ASt.set_same _ _ _
 generalize (lessB (lessB σ2 x) y).set n (some (.obj [.bool true,.sl .shr (kv .u64 ks'),.sl .shr (kv .u64 vs'),.sl .full []]))=σ5 at *
 have htn:t≠n:=fun e=>by rw [e,hm.new] at ht;cases ht
 have ht5:=(ASt.set_ne (σ:=base) (r:=some (.obj [.bool true,.sl .shr (kv .u64 ks'),.sl .shr (kv .u64 vs'),.sl .full []])) htn).trans ht
 refine (trfull_leaf hset hr).mono ?_
 rintro w σ6 ⟨rfl,rfl⟩
 rw [decide_eq_true (by omega)]
 simp (disch:=first|assumption|omega|(simp only [List.length_append,List.length_cons,List.length_nil];omega)) only [go_sem]
 refine (trsplit_leaf hset hr (by omega) (by omega) (by omega) (h:=15) (by omega)).mono ?_
 rintro w σ7 ⟨n2,r1,r2,mid,rfl,hn2,hmid,hr1,hr2,rfl⟩
 have hb2:(base.set n (some (.obj [.bool true,.sl .shr (kv .u64 ks'),.sl .shr (kv .u64 vs'),.sl .full []]))) n2=none:=by
  cases hc:(base.set n (some (.obj [.bool true,.sl .shr (kv .u64 ks'),.sl .shr (kv .u64 vs'),.sl .full []]))) n2 with
  | none=>rfl
  | some q=>rw [hxn.at hc] at hn2;cases hn2
 have hnn2:n≠n2:=fun e=>by rw [<-e,ASt.set_same] at hb2;cases hb2
 have hbn2:base n2=none:=by rw [ASt.set_ne (Ne.symm hnn2)] at hb2;exact hb2
 have h8:=(hxn.set (x:=n2) (some r2) (.inr hn2) (ck_ne hxn.ck hb2)).set (x:=n) (some r1) (.inl (by rw [ASt.set_ne hnn2,ASt.set_same];simp)) (ck_ne h.ck hm.new)
 have e8:((base.set n (some (.obj [.bool true,.sl .shr (kv .u64 ks'),.sl .shr (kv .u64 vs'),.sl .full []]))).set n2 (some r2)).set n (some r1)=(base.set n2 (some r2)).set n (some r1):=by
  funext z
  by_cases hz:z=n
  ·rw [hz,ASt.set_same,ASt.set_same]
  rw [ASt.set_ne hz,ASt.set_ne hz]
  by_cases hz2:z=n2
  ·rw [hz2,ASt.set_same,ASt.set_same]
  rw [ASt.set_ne hz2,ASt.set_ne hz2,ASt.set_ne hz]
 rw [e8] at h8
 have htn2:t≠n2:=fun e=>by rw [e,hbn2] at ht;cases ht
 have ht8:((base.set n2 (some r2)).set n (some r1)) t=some (.obj [.ptr p 0,.int .i64 root]):=by rw [ASt.set_ne htn,ASt.set_ne htn2];exact ht
 have hnb:(base.set n2 (some r2)) n=none:=by rw [ASt.set_ne hnn2];exact hm.new
 have hck2:=h.ck.away (r:=some r2) (ck_ne h.ck hbn2)
 simp (disch:=first|assumption|omega|(simp only [List.length_append,List.length_cons,List.length_nil];omega)) only [go_sem]
 refine (trstore_ok (nd := .leaf (ks'.take 15) (vs'.take 15)) h8 ht8 hq ⟨_,ASt.set_same _ _ _,hr1⟩ ⟨by rw [List.length_take,List.length_take];omega,by rw [List.length_take];omega,u64L_take hku,u64L_take hvu⟩).mono ?_
 rintro w σ9 ⟨rfl,b1,hb1,h9⟩
 have hN2:((base.set n2 (some r2)).set n (some r1)) n2=some r2:=by rw [ASt.set_ne (Ne.symm hnn2),ASt.set_same]
 simp (disch:=first|assumption|omega|(simp only [List.length_append,List.length_cons,List.length_nil];omega)) only [go_sem]
 refine (trfresh_ok (nd := .leaf (ks'.drop 15) (vs'.drop 15)) h9 ht8 hroom ⟨_,hN2,hr2⟩ ⟨by rw [List.length_drop,List.length_drop];omega,by rw [List.length_drop];omega,u64L_drop hku,u64L_drop hvu⟩).mono ?_
 rintro w σ10 ⟨q,b2,rfl,hq1,hq2,hq3,hb2',h10⟩
 have hqp:pg q=none:=by
  by_cases e:q=page
  ·rw [e,pset_same] at hq1;cases hq1
  ·rw [pset_ne e] at hq1;exact hq1
 simp (disch:=first|assumption|omega|(simp only [List.length_append,List.length_cons,List.length_nil];omega)) only [go_sem]
 exact retC_by (.refl _) (.refl _) ⟨q,mid,b1,b2,rfl,hmid,hqp,hq2,hq3,hb1,hb2',(h10.drop1 hnb hck2).drop1 hbn2 h.ck⟩
end
end Go.A
namespace Go.A
open Go.Proofs
/-! 28: (*tabular/tree.Tree).Get -/
def c28_32:ACode := .seq (.ops [ oq 17 (.bin .lss (.t 16) (.v (.int .i64 20)))]) (.seq (.cond (.t 17) .skip (.exit 0)) (.seq (.block 1 (.seq (.ops [ oq 19 (.mv (.t 0)),oq 20 (.mv (.t 7)),oe 21 (.call 57 [(.t 19),(.t 20)]),oq 18 (.mv (.t 21)),oq 22 (.ext 0 (.t 18)),oq 23 (.ext 1 (.t 18)),oq 8 (.mv (.t 22)),oq 9 (.mv (.t 23))]) (.seq (.seq (.ops [ oq 24 (.mv (.t 9)),oq 25 (.bin .neq (.t 24) (.v (.int .i64 0)))]) (.cond (.t 25) (.seq (.ops [ oq 26 (.mv (.t 9)),oq 4 (.mv (.v (.int .u64 0))),oq 5 (.mv (.v (.bool false))),oq 6 (.mv (.t 26))]) .ret) .skip)) (.seq (.seq (.ops [ oq 27 (.mv (.t 8)),oq 28 (.nc (.t 27)),oq 29 (.fa 0 (.t 28)),oq 30 (.ld none (.t 29))]) (.cond (.t 30) (.seq (.seq (.ops [ oq 32 (.mv (.t 8)),oq 33 (.nc (.t 32)),oq 34 (.fa 1 (.t 33)),oq 35 (.ld none (.t 34)),oq 36 (.mv (.t 1)),oe 37 (.call 58 [(.t 35),(.t 36)]),oq 31 (.mv (.t 37)),oq 38 (.ext 0 (.t 31)),oq 39 (.ext 1 (.t 31)),oq 10 (.mv (.t 38)),oq 11 (.mv (.t 39))]) (.seq (.ops [ oq 40 (.mv (.t 11))]) (.cond (.t 40) (.seq (.ops [ oq 41 (.mv (.t 8)),oq 42 (.nc (.t 41)),oq 43 (.fa 2 (.t 42)),oq 44 (.ld none (.t 43)),oq 45 (.mv (.t 10)),oq 46 (.ia 1 (.t 44) (.t 45)),oq 47 (.ld none (.t 46)),oq 4 (.mv (.t 47)),oq 5 (.mv (.v (.bool true))),oq 6 (.mv (.v (.int .i64 0)))]) .ret) .skip))) (.seq (.ops [ oq 4 (.mv (.v (.int .u64 0))),oq 5 (.mv (.v (.bool false))),oq 6 (.mv (.v (.int .i64 0)))]) .ret)) .skip)) (.ops [ oq 48 (.mv (.t 8)),oq 49 (.nc (.t 48)),oq 50 (.fa 3 (.t 49)),oq 51 (.ld none (.t 50)),oq 52 (.mv (.t 8)),oq 53 (.mv (.t 1)),⟨some 54,none,.e (.call 59 [(.t 52),(.t 53)]),[⟨none,.ld none (.t 50),51⟩]⟩,oq 55 (.ia 1 (.t 51) (.t 54)),oq 56 (.ld none (.t 55)),oq 7 (.mv (.t 56))]))))) (.ops [ oq 57 (.bin .add (.t 16) (.v (.int .i64 1))),oq 16 (.mv (.t 57))])))
def c28_40:ACode := .seq (.ops [ oq 4 (.mv (.v (.int .u64 0))),oq 5 (.mv (.v (.bool false))),oq 6 (.mv (.v (.int .i64 0)))]) (.seq (.ops [ oq 12 (.mv (.t 0)),oq 13 (.nc (.t 12)),oq 14 (.fa 1 (.t 13)),oq 15 (.ld none (.t 14)),oq 7 (.mv (.t 15))]) (.seq (.seq (.ops [ oq 16 (.mv (.v (.int .i64 0)))]) (.block 0 (.loop c28_32))) (.seq (.ops [ oq 4 (.mv (.v (.int .u64 0))),oq 5 (.mv (.v (.bool false))),oq 6 (.mv (.v (.int .i64 3)))]) .ret)))
@[go_sem] def c28_32_wp:=wp_of c28_32.eq_1
@[go_sem] def c28_40_wp:=wp_of c28_40.eq_1
def c28:AFn:=⟨58,[.t 4,.t 5,.t 6],c28_40⟩
theorem c28_ok:compF Tryz.prog Tryz.f28=some c28:=by kernel_rfl
theorem a28 {args:List AV} {σ:ASt} {R:AV->ASt->Prop} (hl:args.length<=58) (h:c28_40.wp Tryz.prog (RetQ [.t 4,.t 5,.t 6] R) (init args) σ):ACalls Tryz.prog 28 args σ R:=acalls_of Tryz.func28 c28_ok hl h
/-! 59: (*tabular/tree.node).kid -/
def c59_10:ACode := .seq (.ops [ oq 4 (.mv (.v (.int .i64 0)))]) (.seq (.ops [ oq 8 (.mv (.t 0)),oq 9 (.nc (.t 8)),oq 10 (.fa 1 (.t 9)),oq 11 (.ld none (.t 10)),oq 12 (.mv (.t 1)),oe 13 (.call 58 [(.t 11),(.t 12)]),oq 7 (.mv (.t 13)),oq 14 (.ext 0 (.t 7)),oq 15 (.ext 1 (.t 7)),oq 5 (.mv (.t 14)),oq 6 (.mv (.t 15))]) (.seq (.seq (.ops [ oq 16 (.mv (.t 6))]) (.cond (.t 16) (.ops [ oq 17 (.mv (.t 5)),oq 18 (.bin .add (.t 17) (.v (.int .i64 1))),oq 5 (.mv (.t 18))]) .skip)) (.seq (.ops [ oq 19 (.mv (.t 5)),oq 4 (.mv (.t 19))]) .ret)))
@[go_sem] def c59_10_wp:=wp_of c59_10.eq_1
def c59:AFn:=⟨20,[.t 4],c59_10⟩
theorem c59_ok:compF Tryz.prog Tryz.f59=some c59:=by kernel_rfl
theorem a59 {args:List AV} {σ:ASt} {R:AV->ASt->Prop} (hl:args.length<=20) (h:c59_10.wp Tryz.prog (RetQ [.t 4] R) (init args) σ):ACalls Tryz.prog 59 args σ R:=acalls_of Tryz.func59 c59_ok hl h
end Go.A
namespace Go.A
open Go.Proofs
def kidI (ks:List Nat) (k:Nat):Nat:=if ks[lowI ks k]? = some k then lowI ks k+1 else lowI ks k
theorem kidI_le (ks:List Nat) (k:Nat):kidI ks k<=ks.length:=by
 unfold kidI
 have:=lowI_le ks k
 split
 ·rename_i h
  have:=(List.getElem?_eq_some_iff.1 h).1
  omega
 ·exact this
section
variable {base base' σ σ':ASt} {p k page fa xa c t root n:Nat} {m:Int} {pg:Pgs} {dirty:Bool} {b:List UInt8} {nd:TN} {r:Role} {ks vs ds:List Nat}
theorem trkid_p {σ0:ASt} {x:AV} {a0 a2 a3:AV} {key:Nat} (hn:σ n=some (.obj [a0,x,a2,a3])) (h0:a0.cells = [a0]) (hx:OwnR σ0 σ .u64 x ks) (hl:ks.length<=1000) (hs:ks.Pairwise (· < ·)) :
  ACalls Tryz.prog 59 [.ptr n 0,.int .u64 key] σ fun r σ'=>r = .int .i64 (kidI ks key)/\σ'=σ:=by
 have hle:=lowI_le ks key
 have hbin:=hx.bin64 (t:=key) hl hs
 have hcx:=hx.cell
 unfold kidI
 by_cases hf:ks[lowI ks key]? = some key
 ·rw [decide_eq_true hf] at hbin
  rw [if_pos hf]
  generalize lowI ks key=i at *
  refine a59 (by simp) ?_
  simp (disch:=first|assumption|omega|(simp only [List.length_append,List.length_cons,List.length_nil];omega)) only [go_sem,hn,hcx,h0]
  refine hbin.mono ?_
  rintro w σ1 ⟨rfl,rfl⟩
  simp (disch:=first|assumption|omega|(simp only [List.length_append,List.length_cons,List.length_nil];omega)) only [go_sem]
  exact retC_by (.refl _) (.refl _) ⟨rfl,rfl⟩
 ·rw [decide_eq_false hf] at hbin
  rw [if_neg hf]
  generalize lowI ks key=i at *
  refine a59 (by simp) ?_
  simp (disch:=first|assumption|omega|(simp only [List.length_append,List.length_cons,List.length_nil];omega)) only [go_sem,hn,hcx,h0]
  refine hbin.mono ?_
  rintro w σ1 ⟨rfl,rfl⟩
  simp (disch:=first|assumption|omega|(simp only [List.length_append,List.length_cons,List.length_nil];omega)) only [go_sem]
  exact retC_by (.refl _) (.refl _) ⟨rfl,rfl⟩
theorem trkid_i {k1:SK} {a0 a2 a3:AV} {key:Nat} (h0:a0.cells = [a0]) (hl:ks.length<=1000) (hs:ks.Pairwise (· < ·)) :
  Pure Tryz.prog 59 [.imm [a0,.sl k1 (kv .u64 ks),a2,a3],.int .u64 key] (.int .i64 (kidI ks key)):=by
 intro σ
 have hle:=lowI_le ks key
 have hbin:=xBin64_ok (t:=key) k1 (by omega) hs
 unfold kidI
 by_cases hf:ks[lowI ks key]? = some key
 ·rw [decide_eq_true hf] at hbin
  rw [if_pos hf]
  generalize lowI ks key=i at *
  refine a59 (by simp) ?_
  simp (disch:=first|assumption|omega|(simp only [List.length_append,List.length_cons,List.length_nil];omega)) only [go_sem,h0]
  refine hbin.use ?_
  simp (disch:=first|assumption|omega|(simp only [List.length_append,List.length_cons,List.length_nil];omega)) only [go_sem]
  exact retC_by (.refl _) (.refl _) ⟨rfl,rfl⟩
 ·rw [decide_eq_false hf] at hbin
  rw [if_neg hf]
  generalize lowI ks key=i at *
  refine a59 (by simp) ?_
  simp (disch:=first|assumption|omega|(simp only [List.length_append,List.length_cons,List.length_nil];omega)) only [go_sem,h0]
  refine hbin.use ?_
  simp (disch:=first|assumption|omega|(simp only [List.length_append,List.length_cons,List.length_nil];omega)) only [go_sem]
  exact retC_by (.refl _) (.refl _) ⟨rfl,rfl⟩
set_option maxHeartbeats 1000000 in
theorem trget_ok (h:PoolAt base σ p m k pg) (ht:base t=some (.obj [.ptr p 0,.int .i64 root])) {key D:Nat} (hD:D<=10) {P:Nat->Nat} (hP:P 0=root)
  (hin:∀ i,i<D->∃ b ks ds,pg (P i)=some b/\TInner b ks ds/\ks.Pairwise (· < ·)/\ds[kidI ks key]? = some (P (i+1))) (hq:pg (P D)=some b) (hl:TLeaf b ks vs) (hs:ks.Pairwise (· < ·)) {v:Nat} {fd:Bool}
  (hv:fd=true/\ks[lowI ks key]? = some key/\vs[lowI ks key]? = some v\/fd=false/\ks[lowI ks key]? ≠ some key/\v=0) :
  ACalls Tryz.prog 28 [.ptr t 0,.int .u64 key] σ fun r σ'=>r = .tuple [.int .u64 v,.bool fd,.int .i64 0]/\PoolAt base σ' p m k pg:=by
 have hts:=h.at ht
 refine a28 (by simp) ?_
 simp (disch:=first|assumption|omega|(simp only [List.length_append,List.length_cons,List.length_nil];omega)) only [go_sem,hts]
 obtain ⟨J,hJ⟩:∃ J:Nat->AFr->ASt->Prop,J=fun i a1 s2=>i<=D/\(a1 0 = .ptr t 0/\a1 1 = .int .u64 key/\a1 7 = .int .i64 (P i)/\a1 16 = .int .i64 i)/\PoolAt base s2 p m k pg:=⟨_,rfl⟩
 refine wp_loop_on J (fun i=>D+1-i) 0 ?_ ?_
 ·rw [hJ]
  refine ⟨Nat.zero_le _,?_,h⟩
  rw [hP]
  simp (disch:=first|assumption|omega|(simp only [List.length_append,List.length_cons,List.length_nil];omega)) only [go_sem]
 intro i a1 s2 hj
 rw [hJ] at hj
 obtain ⟨hi,hf,hp⟩:=hj
 have hlt:(i:Int)<20:=by omega
 by_cases hiD:i<D
 ·obtain ⟨b',ks',ds',hq',hl',hs',hd'⟩:=hin i hiD
  simp (disch:=first|assumption|omega|(simp only [List.length_append,List.length_cons,List.length_nil];omega)) only [go_sem,hf,hlt]
  refine (trload_i (nd := .inner ks' ds') hp ht hq' hl').mono ?_
  rintro w s3 ⟨cs,rfl,⟨k1,k2,k3,hcs⟩,hp3⟩
  injection hcs with hcs
  subst hcs
  have hk:=trkid_i (k1:=k1) (ks:=ks') (a0 := .bool false) (a2 := .sl k2 []) (a3 := .sl k3 (kv .i64 ds')) (key:=key) rfl (by have:=hl'.n;have:=hl'.most;omega) hs'
  have hg:=kv_get (k := .i64) hd'
  have hdl:=kv_len .i64 ds'
  have hkl:=kidI_le ks' key
  have hkn:=hl'.n
  generalize kidI ks' key=j at *
  have hjl:(j:Int)<(ds'.length:Int):=by omega
  generalize kv .i64 ds'=DS at *
  simp (disch:=first|assumption|omega|(simp only [List.length_append,List.length_cons,List.length_nil];omega)) only [go_sem,hf]
  refine hk.use ?_
  simp (disch:=first|assumption|omega|(simp only [List.length_append,List.length_cons,List.length_nil];omega)) only [go_sem,hf,hg,hdl,hjl,Int.toNat_natCast]
  rw [hJ]
  refine ⟨i+1,by omega,by omega,?_,hp3⟩
  simp (disch:=first|assumption|omega|(simp only [List.length_append,List.length_cons,List.length_nil];omega)) only [go_sem,hf]
 ·obtain rfl:i=D:=by omega
  simp (disch:=first|assumption|omega|(simp only [List.length_append,List.length_cons,List.length_nil];omega)) only [go_sem,hf,hlt]
  refine (trload_i (nd := .leaf ks vs) hp ht hq hl).mono ?_
  rintro w s3 ⟨cs,rfl,⟨k1,k2,k3,hcs⟩,hp3⟩
  injection hcs with hcs
  subst hcs
  have hbin:=xBin64_ok (t:=key) k1 (by have:=hl.most;omega) hs
  have hkn:=hl.n
  rcases hv with ⟨rfl,hv1,hv2⟩|⟨rfl,hv1,rfl⟩
  ·rw [decide_eq_true hv1] at hbin
   have hg:=kv_get (k := .u64) hv2
   have hjl:=(List.getElem?_eq_some_iff.1 hv2).1
   have hvl:=kv_len .u64 vs
   generalize lowI ks key=j at *
   have hjl:(j:Int)<(vs.length:Int):=by omega
   generalize kv .u64 vs=VS at *
   simp (disch:=first|assumption|omega|(simp only [List.length_append,List.length_cons,List.length_nil];omega)) only [go_sem,hf]
   refine hbin.use ?_
   simp (disch:=first|assumption|omega|(simp only [List.length_append,List.length_cons,List.length_nil];omega)) only [go_sem,hf,hg,hvl,hjl,Int.toNat_natCast]
   exact retC_by (.refl _) (.refl _) ⟨rfl,hp3⟩
  ·rw [decide_eq_false hv1] at hbin
   simp (disch:=first|assumption|omega|(simp only [List.length_append,List.length_cons,List.length_nil];omega)) only [go_sem,hf]
   refine hbin.use ?_
   simp (disch:=first|assumption|omega|(simp only [List.length_append,List.length_cons,List.length_nil];omega)) only [go_sem,hf]
   exact retC_by (.refl _) (.refl _) ⟨rfl,hp3⟩
end
end Go.A
namespace Go.A
open Go.Proofs
/-! 31: (*tabular/tree.Tree).Put -/
def c31_27:ACode := .seq (.ops [ oq 6 (.mv (.v (.int .i64 0)))]) (.seq (.ops [ oq 13 (.mv (.t 0)),oq 14 (.mv (.t 0)),oq 15 (.nc (.t 14)),oq 16 (.fa 1 (.t 15)),oq 17 (.ld none (.t 16)),oq 18 (.mv (.t 1)),oq 19 (.mv (.t 2)),oe 20 (.call 62 [(.t 13),(.t 17),(.t 18),(.t 19),(.v (.int .i64 0))]),oq 12 (.mv (.t 20)),oq 21 (.ext 0 (.t 12)),oq 22 (.ext 1 (.t 12)),oq 23 (.ext 2 (.t 12)),oq 7 (.mv (.t 21)),oq 8 (.mv (.t 22)),oq 9 (.mv (.t 23))]) (.seq (.seq (.ops [ oq 24 (.mv (.t 9)),oq 25 (.bin .neq (.t 24) (.v (.int .i64 0))),oq 26 (.mv (.t 25)),⟨some 27,some (26,false),.q (.mv (.t 7)),[]⟩,⟨some 28,some (26,false),.q (.bin .eql (.t 27) (.v (.int .i64 0))),[]⟩,oq 29 (.pick (.t 26) (.v (.bool true)) (.t 28))]) (.cond (.t 29) (.seq (.ops [ oq 30 (.mv (.t 9)),oq 6 (.mv (.t 30))]) .ret) .skip)) (.seq (.ops [ oq 32 (.mv (.t 0)),oq 33 (.mv (.t 0)),oq 34 (.nc (.t 33)),oq 35 (.fa 1 (.t 34)),oq 36 (.ld none (.t 35)),oe 37 (.call 57 [(.t 32),(.t 36)]),oq 31 (.mv (.t 37)),oq 38 (.ext 0 (.t 31)),oq 39 (.ext 1 (.t 31)),oq 10 (.mv (.t 38)),oq 9 (.mv (.t 39))]) (.seq (.seq (.ops [ oq 40 (.mv (.t 9)),oq 41 (.bin .neq (.t 40) (.v (.int .i64 0)))]) (.cond (.t 41) (.seq (.ops [ oq 42 (.mv (.t 9)),oq 6 (.mv (.t 42))]) .ret) .skip)) (.seq (.ops [ oq 44 (.mv (.t 0)),oq 45 (.mv (.t 10)),oe 46 (.call 63 [(.t 44),(.t 45)]),oq 43 (.mv (.t 46)),oq 47 (.ext 0 (.t 43)),oq 48 (.ext 1 (.t 43)),oq 11 (.mv (.t 47)),oq 9 (.mv (.t 48))]) (.seq (.seq (.ops [ oq 49 (.mv (.t 9)),oq 50 (.bin .neq (.t 49) (.v (.int .i64 0)))]) (.cond (.t 50) (.seq (.ops [ oq 51 (.mv (.t 9)),oq 6 (.mv (.t 51))]) .ret) .skip)) (.seq (.ops [ oq 52 (.mv (.t 0)),oq 53 (.mv (.t 0)),oq 54 (.nc (.t 53)),oq 55 (.fa 1 (.t 54)),oq 56 (.ld none (.t 55)),oq 57 (.mv (.t 8)),oq 58 (.bslv 1 [(.t 57)]),oq 59 (.mv (.t 11)),oq 60 (.mv (.t 7)),oq 61 (.bsl 1 [(.t 59),(.t 60)]),oq 62 (.build [(.bool false),(.sl .full []),(.sl .full []),(.sl .full [])] [(1,1,(.t 58)),(3,1,(.t 61))]),oe 63 (.box (.t 62)),oe 64 (.call 64 [(.t 52),(.t 56),(.t 63)]),oq 6 (.mv (.t 64))]) .ret)))))))
@[go_sem] def c31_27_wp:=wp_of c31_27.eq_1
def c31:AFn:=⟨65,[.t 6],c31_27⟩
theorem c31_ok:compF Tryz.prog Tryz.f31=some c31:=by kernel_rfl
theorem a31 {args:List AV} {σ:ASt} {R:AV->ASt->Prop} (hl:args.length<=65) (h:c31_27.wp Tryz.prog (RetQ [.t 6] R) (init args) σ):ACalls Tryz.prog 31 args σ R:=acalls_of Tryz.func31 c31_ok hl h
end Go.A
namespace Go.A
open Go.Proofs
theorem u32L_ins {l:List Nat} {i x:Nat} (h:u32L l) (hx:x<4294967296):u32L (insL l i x):=fun y hy=>by
 unfold insL at hy
 rw [List.mem_append,List.mem_cons] at hy
 rcases hy with hy|rfl|hy
 ·exact h y (List.mem_of_mem_take hy)
 ·exact hx
 ·exact h y (List.mem_of_mem_drop hy)
section
variable {base base' σ σ':ASt} {p k page fa xa c t root n:Nat} {m:Int} {pg:Pgs} {dirty:Bool} {b:List UInt8} {nd:TN} {r:Role} {ks vs ds:List Nat}
set_option maxHeartbeats 1000000 in
theorem trput_up (h:PoolAt base σ p m k pg) (ht:base t=some (.obj [.ptr p 0,.int .i64 root])) (hq:pg page=some b) (hl:TInner b ks ds) (hs:ks.Pairwise (· < ·)) {key v c:Nat} (hc:ds[kidI ks key]? = some c) {Q:Nat->Pgs->Prop}
  (call:∀ base' σ',PoolAt base' σ' p m k pg->base' t=some (.obj [.ptr p 0,.int .i64 root]) →
   ACalls Tryz.prog 62 [.ptr t 0,.int .i64 c,.int .u64 key,.int .u64 v,.int .i64 1] σ' fun r σ2=>r = .tuple [.int .i64 0,.int .u64 0,.int .i64 0]/\∃ k' pg',Q k' pg'/\PoolAt base' σ2 p m k' pg') :
  ACalls Tryz.prog 62 [.ptr t 0,.int .i64 page,.int .u64 key,.int .u64 v,.int .i64 0] σ fun r σ2=>r = .tuple [.int .i64 0,.int .u64 0,.int .i64 0]/\∃ k' pg',Q k' pg'/\PoolAt base σ2 p m k' pg':=by
 have hts:=h.at ht
 have hle:=kidI_le ks key
 refine a62 (by simp) ?_
 simp (disch:=first|assumption|omega|(simp only [List.length_append,List.length_cons,List.length_nil];omega)) only [go_sem,hts]
 refine (trload_innerM h ht hq hl).mono ?_
 rintro w σ1 ⟨n,x,y,base1,rfl,hm,hO,hp⟩
 have hn:=hp.at hm.hn
 have own:∀ {k:IntKind} {v:AV} {l:List Nat},OwnR base base1 k v l->OwnR base σ1 k v l:=fun {k v l} ho=>ho.mono fun X r hX hr=>hp.at hr
 have hcx:=hm.ha.cell
 have hcy:=hm.hd.cell
 have hmost:=hl.most
 have hln:=hl.n
 have hkid:=trkid_p (key:=key) hn rfl (own hm.ha) (by omega) hs
 simp (disch:=first|assumption|omega|(simp only [List.length_append,List.length_cons,List.length_nil];omega)) only [go_sem,hn,hcx,hcy]
 refine hkid.mono ?_
 rintro w σ2 ⟨rfl,rfl⟩
 obtain ⟨Y,cc,R,rfl,hY,hg⟩:=(own hm.hd).get hc
 generalize kidI ks key=i at *
 have hil:(i:Int)<(ds.length:Int):=by omega
 simp (disch:=first|assumption|omega|(simp only [List.length_append,List.length_cons,List.length_nil];omega)) only [go_sem,hn,hcx,hY,hg,hil,Int.toNat_natCast,Nat.zero_add]
 refine (call base1 σ2 hp (hm.kept _ _ ht)).mono ?_
 rintro w σ3 ⟨rfl,k',pg',hQ,h3⟩
 simp (disch:=first|assumption|omega|(simp only [List.length_append,List.length_cons,List.length_nil];omega)) only [go_sem]
 exact retC_by (.refl _) (.refl _) ⟨rfl,k',pg',hQ,h3.less hm.kept h.ck⟩
set_option maxHeartbeats 1000000 in
theorem trput_up2 (h:PoolAt base σ p m k pg) (ht:base t=some (.obj [.ptr p 0,.int .i64 root])) (hq:pg page=some b) (hl:TInner b ks ds) (hs:ks.Pairwise (· < ·)) {key v c:Nat} (hc:ds[kidI ks key]? = some c) (hsmall:ks.length<=20)
  {Q:Nat->Nat->Nat->Pgs->Prop}
  (call:∀ base' σ',PoolAt base' σ' p m k pg->base' t=some (.obj [.ptr p 0,.int .i64 root]) →
   ACalls Tryz.prog 62 [.ptr t 0,.int .i64 c,.int .u64 key,.int .u64 v,.int .i64 1] σ' fun r σ2=>∃ (q mid:Nat) (k':Nat) (pg':Pgs),r = .tuple [.int .i64 q,.int .u64 mid,.int .i64 0]/\(1<=q/\q<60000/\mid<18446744073709551616/\pg' page=some b)/\Q q mid k' pg'/\PoolAt base' σ2 p m k' pg') :
  ACalls Tryz.prog 62 [.ptr t 0,.int .i64 page,.int .u64 key,.int .u64 v,.int .i64 0] σ fun r σ2=>∃ (q mid:Nat) (k':Nat) (pg':Pgs) (b':List UInt8),r = .tuple [.int .i64 0,.int .u64 0,.int .i64 0]/\Q q mid k' pg'/\TInner b' (insL ks (kidI ks key) mid) (insL ds (kidI ks key+1) q)/\PoolAt base σ2 p m k' (pset pg' page (some b')):=by
 have hts:=h.at ht
 have hle:=kidI_le ks key
 refine a62 (by simp) ?_
 simp (disch:=first|assumption|omega|(simp only [List.length_append,List.length_cons,List.length_nil];omega)) only [go_sem,hts]
 refine (trload_innerM h ht hq hl).mono ?_
 rintro w σ1 ⟨n,x,y,base1,rfl,hm,hO,hp⟩
 have hn:=hp.at hm.hn
 have own:∀ {k:IntKind} {v:AV} {l:List Nat},OwnR base base1 k v l->OwnR base σ1 k v l:=fun {k v l} ho=>ho.mono fun X r hX hr=>hp.at hr
 have hcx:=hm.ha.cell
 have hcy:=hm.hd.cell
 have hmost:=hl.most
 have hln:=hl.n
 have hkid:=trkid_p (key:=key) hn rfl (own hm.ha) (by omega) hs
 simp (disch:=first|assumption|omega|(simp only [List.length_append,List.length_cons,List.length_nil];omega)) only [go_sem,hn,hcx,hcy]
 refine hkid.mono ?_
 rintro w σ2 ⟨rfl,rfl⟩
 generalize kidI ks key=i at *
 have hil:(i:Int)<(ds.length:Int):=by omega
 obtain ⟨Y,cc,R,hy,hY,hg⟩:=(own hm.hd).get hc
 have hY':=hY
 subst hy
 simp (disch:=first|assumption|omega|(simp only [List.length_append,List.length_cons,List.length_nil];omega)) only [go_sem,hn,hcx,hY,hg,hil,Int.toNat_natCast,Nat.zero_add]
 refine (call base1 σ2 hp (hm.kept _ _ ht)).mono ?_
 rintro w σ3 ⟨q,mid,k',pg',rfl,⟨hq1,hq2,hmid,hpb⟩,hQ,h3⟩
 clear hY hg own
 have hq0:¬ (q:Int)=0:=by omega
 have hn:=h3.at hm.hn
 have own:∀ {k:IntKind} {v:AV} {l:List Nat},OwnR base base1 k v l->OwnR base σ3 k v l:=fun {k v l} ho=>ho.mono fun X r hX hr=>h3.at hr
 have hi1:=(own hm.ha).ins64 (i:=i) (x:=mid) hle (by omega)
 have hb2:OwnR base (lessB σ3 x) .i64 (.msl Y 0 ds.length cc) ds:=(own hm.hd).mono fun X r hX hr=>by rw [lessB_eq (fun e=>hm.ad X e hX)];exact hr
 have hi2:=hb2.insI (i:=i+1) (x:=q) (by omega) (by omega)
 have hlen:(insL ks i mid).length=ks.length+1:=insL_len hle
 have hlen2:(insL ds (i+1) q).length=ds.length+1:=insL_len (by omega)
 have hku:u64L (insL ks i mid):=u64L_ins hl.ku hmid
 have hdu:u32L (insL ds (i+1) q):=u32L_ins hl.du (by omega)
 have hxn:=node_hard hO hm.new hm.hn hm.ha hm.hd hm.na hm.nd hm.ad h.ck h3 (.obj [.bool false,.sl .shr (kv .u64 (insL ks i mid)),.sl .full [],.sl .shr (kv .i64 (insL ds (i+1) q))])
 have hr:NodeR (.obj [.bool false,.sl .shr (kv .u64 (insL ks i mid)),.sl .full [],.sl .shr (kv .i64 (insL ds (i+1) q))]) (.inner (insL ks i mid) (insL ds (i+1) q)):=⟨_,_,_,rfl⟩
 generalize hK:insL ks i mid=ks' at *
 generalize hD:insL ds (i+1) q=ds' at *
 have hc1:((i+1:Nat):Int)=(i:Int)+1:=by omega
 rw [hc1] at hi2
 simp (disch:=first|assumption|omega|(simp only [List.length_append,List.length_cons,List.length_nil];omega)) only [go_sem,hq0,hn,hcx]
 refine hi1.mono ?_
 rintro w σ4 ⟨rfl,rfl⟩
 have hn3:lessB σ3 x n=some (.obj [.bool false,x,.sl .full [],.msl Y 0 ds.length cc]):=(lessB_eq hm.na).trans hn
 simp (disch:=first|assumption|omega|(simp only [List.length_append,List.length_cons,List.length_nil];omega)) only [go_sem,hn3,hcx]
 refine hi2.mono ?_
 rintro w σ5 ⟨rfl,rfl⟩
 have hn4:lessB (lessB σ3 x) (.msl Y 0 ds.length cc) n=some (.obj [.bool false,x,.sl .full [],.msl Y 0 ds.length cc]):=(lessB_eq hm.nd).trans hn3
 simp (disch:=first|assumption|omega|(simp only [List.length_append,List.length_cons,List.length_nil];omega)) only [go_sem,hn4,hcx]
 have hset:((lessB (lessB σ3 x) (.msl Y 0 ds.length cc)).set n (some (.obj [.bool false,.sl .shr (kv .u64 ks'),.sl .full [],.sl .shr (kv .i64 ds')]))) n=some (.obj [.bool false,.sl .shr (kv .u64 ks'),.sl .full [],.sl .shr (kv .i64 ds')]):=ASt.set_same _ _ _
 generalize (lessB (lessB σ3 x) (.msl Y 0 ds.length cc)).set n (some (.obj [.bool false,.sl .shr (kv .u64 ks'),.sl .full [],.sl .shr (kv .i64 ds')]))=σ6 at *
 have htn:t≠n:=fun e=>by rw [e,hm.new] at ht;cases ht
 have ht6:=(ASt.set_ne (σ:=base) (r:=some (.obj [.bool false,.sl .shr (kv .u64 ks'),.sl .full [],.sl .shr (kv .i64 ds')])) htn).trans ht
 refine (trfull_inner hset hr (by omega) (by omega)).mono ?_
 rintro w σ7 ⟨rfl,rfl⟩
 simp (disch:=first|assumption|omega|(simp only [List.length_append,List.length_cons,List.length_nil];omega)) only [go_sem]
 refine (trstore_ok (nd := .inner ks' ds') hxn ht6 hpb ⟨_,ASt.set_same _ _ _,hr⟩ ⟨by omega,by omega,by omega,hku,hdu⟩).mono ?_
 rintro w σ8 ⟨rfl,b',hb',h8⟩
 simp (disch:=first|assumption|omega|(simp only [List.length_append,List.length_cons,List.length_nil];omega)) only [go_sem]
 exact retC_by (.refl _) (.refl _) ⟨q,mid,k',pg',b',rfl,hQ,by rw [hK,hD];exact hb',h8.drop1 hm.new h.ck⟩
set_option maxHeartbeats 1000000 in
theorem trPut_stay (h:PoolAt base σ p m k pg) (ht:base t=some (.obj [.ptr p 0,.int .i64 root])) {key v:Nat} {Q:Nat->Pgs->Prop}
  (call:ACalls Tryz.prog 62 [.ptr t 0,.int .i64 root,.int .u64 key,.int .u64 v,.int .i64 0] σ fun r σ2=>r = .tuple [.int .i64 0,.int .u64 0,.int .i64 0]/\∃ k' pg',Q k' pg'/\PoolAt base σ2 p m k' pg') :
  ACalls Tryz.prog 31 [.ptr t 0,.int .u64 key,.int .u64 v] σ fun r σ2=>r = .int .i64 0/\∃ k' pg',Q k' pg'/\PoolAt base σ2 p m k' pg':=by
 have hts:=h.at ht
 refine a31 (by simp) ?_
 simp (disch:=first|assumption|omega|(simp only [List.length_append,List.length_cons,List.length_nil];omega)) only [go_sem,hts]
 refine call.mono ?_
 rintro w σ1 ⟨rfl,k',pg',hQ,h1⟩
 simp (disch:=first|assumption|omega|(simp only [List.length_append,List.length_cons,List.length_nil];omega)) only [go_sem]
 exact retC_by (.refl _) (.refl _) ⟨rfl,k',pg',hQ,h1⟩
set_option maxHeartbeats 1000000 in
theorem trPut_raise (h:PoolAt base σ p m k pg) (ht:base t=some (.obj [.ptr p 0,.int .i64 root])) {key v:Nat} {k':Nat} (hk':(k':Int)<m) {Q:Nat->Nat->TN->Pgs->Prop}
  (call:ACalls Tryz.prog 62 [.ptr t 0,.int .i64 root,.int .u64 key,.int .u64 v,.int .i64 0] σ fun r σ2=>∃ (q mid:Nat) (nd:TN) (b:List UInt8) (pg':Pgs),r = .tuple [.int .i64 q,.int .u64 mid,.int .i64 0]/\(1<=q/\q<60000/\mid<18446744073709551616/\pg' root=some b/\TPg b nd/\nd.ok)/\Q q mid nd pg'/\PoolAt base σ2 p m k' pg') :
  ACalls Tryz.prog 31 [.ptr t 0,.int .u64 key,.int .u64 v] σ fun r σ2=>∃ (q mid q1:Nat) (nd:TN) (pg':Pgs) (b1 b2:List UInt8),r = .int .i64 0/\Q q mid nd pg'/\pg' q1=none/\TPg b1 nd/\TInner b2 [mid] [q1,q]/\PoolAt base σ2 p m (k'+1) (pset (pset pg' q1 (some b1)) root (some b2)):=by
 have hts:=h.at ht
 refine a31 (by simp) ?_
 simp (disch:=first|assumption|omega|(simp only [List.length_append,List.length_cons,List.length_nil];omega)) only [go_sem,hts]
 refine call.mono ?_
 rintro w σ1 ⟨q,mid,nd,b,pg',rfl,⟨hq1,hq2,hmid,hpr,hb,hok⟩,hQ,h1⟩
 have hq0:¬ (q:Int)=0:=by omega
 have hts1:=h1.at ht
 simp (disch:=first|assumption|omega|(simp only [List.length_append,List.length_cons,List.length_nil];omega)) only [go_sem,hq0,hts1]
 refine (trload_ok h1 ht hpr hb).mono ?_
 rintro w σ2 ⟨n,r1,rfl,hn,hr1,h2⟩
 have htn:t≠n:=fun e=>by rw [e,hn] at ht;cases ht
 have ht2:=(ASt.set_ne (σ:=base) (r:=some r1) htn).trans ht
 simp (disch:=first|assumption|omega|(simp only [List.length_append,List.length_cons,List.length_nil];omega)) only [go_sem]
 refine (trfresh_ok h2 ht2 hk' ⟨r1,ASt.set_same _ _ _,hr1⟩ hok).mono ?_
 rintro w σ3 ⟨q1,b1,rfl,hp1,hl1,hl2,hb1,h3⟩
 have h4:=h3.drop1 hn h1.ck
 have hts4:=h4.at ht
 simp (disch:=first|assumption|omega|(simp only [List.length_append,List.length_cons,List.length_nil];omega)) only [go_sem,hts4]
 refine boxC_by rfl fun n2 hn2=>?_
 have hbn2:base n2=none:=by
  cases hc:base n2 with
  | none=>rfl
  | some q=>rw [h4.at hc] at hn2;cases hn2
 have h5:=h4.set (x:=n2) (some (.obj [.bool false,.sl .lit [.int .u64 mid],.sl .full [],.sl .full [.int .i64 q1,.int .i64 q]])) (.inr hn2) (ck_ne h.ck hbn2)
 have htn2:t≠n2:=fun e=>by rw [e,hbn2] at ht;cases ht
 have ht5:=(ASt.set_ne (σ:=base) (r:=some (.obj [.bool false,.sl .lit [.int .u64 mid],.sl .full [],.sl .full [.int .i64 q1,.int .i64 q]])) htn2).trans ht
 have hp5:(pset pg' q1 (some b1)) root=some b:=by
  rw [pset_ne (fun e=>by rw [e,hp1] at hpr;cases hpr)];exact hpr
 have hok2:(TN.inner [mid] [q1,q]).ok:=by
  refine ⟨rfl,Nat.le_refl 2,by simp only [List.length_cons,List.length_nil];omega,fun x hx=>?_,fun x hx=>?_⟩
  ·rw [List.mem_singleton.1 hx];exact hmid
  ·simp only [List.mem_cons,List.not_mem_nil,or_false] at hx
   rcases hx with rfl|rfl<;>omega
 simp (disch:=first|assumption|omega|(simp only [List.length_append,List.length_cons,List.length_nil];omega)) only [go_sem]
 refine (trstore_ok (nd := .inner [mid] [q1,q]) h5 ht5 hp5 ⟨_,ASt.set_same _ _ _,⟨.lit,.full,.full,rfl⟩⟩ hok2).mono ?_
 rintro w σ4 ⟨rfl,b2,hb2,h6⟩
 simp (disch:=first|assumption|omega|(simp only [List.length_append,List.length_cons,List.length_nil];omega)) only [go_sem]
 exact retC_by (.refl _) (.refl _) ⟨q,mid,q1,nd,pg',b1,b2,rfl,hQ,hp1,hb1,hb2,h6.drop1 hbn2 h.ck⟩
end
end Go.A
namespace Go.A
open Go.Proofs
section
variable {σ0 σ:ASt} {k:IntKind} {v:AV} {l:List Nat}
theorem own_zero (k:IntKind) (z:Int) (m:Nat):leaves ((List.range m).map fun i => [AV.int k z].getD (i % 1) .any)=true:=by
 have hh:∀ (L:List Nat),leaves (L.map fun i => [AV.int k z].getD (i % 1) .any)=true:=by
  intro L
  induction L with
  | nil=>rfl
  | cons a L ih=>
    rw [List.map_cons,leaves_cons,ih,Nat.mod_one]
    rfl
 exact hh _
theorem OwnR.apps (h:OwnR σ0 σ k v l) (h0:∀ x,σ x=none->σ0 x=none) {l2:List Nat} (hl:l.length+l2.length<=10000) (hne:l2 ≠ []) {e:TypeId} {kl:SK} {z:Int} {K:AV->ASt->Prop}
  (hK:∀ v' X r,blkV v'=some X->(blkV v=some X\/σ X=none)->OwnR σ0 (σ.set X (some r)) k v' (l++l2)->K v' (σ.set X (some r))):appC e 1 8 [.int k z] v (.sl kl (kv k l2)) σ K:=by
 have hfl:=kv_flat k l2
 have hle:=kv_len k l2
 have hwl:=kv_well k l2
 have hlv:=kv_leaves k l2
 have hpos:0<l2.length:=List.length_pos_iff.2 hne
 have hkx:kv k (l++l2)=kv k l++kv k l2:=kv_app k l l2
 have hll:(l++l2).length=l.length+l2.length:=List.length_append
 have hrow:∀ (cs:List AV) n c,ownRow 1 [AV.int k z] cs n c=cs++(List.range ((c-n)*1)).map fun i => [AV.int k z].getD (i % 1) .any:=fun cs n c=>rfl
 have hz:=own_zero k z
 generalize kv k l2=KV at *
 rcases h with ⟨rfl,rfl⟩|⟨X,c,R,rfl,h1,h2,h3,h4,h5⟩
 ·have h00:([]:List AV).length=0:=rfl
  refine appO_by rfl hwl (by rw [hfl];exact hlv) (by rw [h00];omega) (by rw [h00];omega) (by omega) fun b c hb hc=>?_
  rw [h00,Nat.zero_add,hle] at hc ⊢
  rw [hfl]
  refine hK _ b _ rfl (.inr hb) (.inr ⟨b,c,(List.range ((c-l2.length)*1)).map fun i => [AV.int k z].getD (i % 1) .any,?_,?_,h0 b hb,?_,?_,hz _⟩)
  ·rw [List.nil_append]
  ·rw [ASt.set_same,hkx];rfl
  ·rw [List.nil_append];exact hc
  ·rw [List.length_map,List.length_range,List.nil_append];omega
 ·rw [appC_msl,h1]
  have hml:(kv k l++R).length=l.length+R.length:=by rw [List.length_append,kv_len]
  refine appM_by hwl (by rw [hfl];exact hlv) (by omega) (by omega) (by omega) (fun hroom=>⟨by omega,?_⟩) (fun hgrow b' c' hb' hc'=>?_)
  ·obtain ⟨R1,R',rfl,hR1⟩:∃ R1 R',R=R1++R'/\R1.length=l2.length:=⟨R.take l2.length,R.drop l2.length,(List.take_append_drop _ _).symm,by rw [List.length_take];omega⟩
   have hs:splice (kv k l++(R1++R')) (0+l.length*1) (KV.length*1) (KV.flatMap AV.cells)=kv k (l++l2)++R':=by
    rw [hfl,← List.append_assoc,splice_mid (A:=kv k l) (B:=R1) (C:=R') (o:=0+l.length*1) (n:=KV.length*1) (by rw [kv_len];omega) (by omega),hkx]
   rw [hs,hle]
   rw [leaves_app,Bool.and_eq_true] at h5
   rw [List.length_append] at h4
   refine hK _ X _ rfl (.inl rfl) (.inr ⟨X,c,R',by rw [hll],ASt.set_same _ _ _,h2,by omega,?_,h5.2⟩)
   rw [hll]
   omega
  ·have ht:((kv k l++R).drop 0).take (l.length*1)=kv k l:=by rw [List.drop_zero,Nat.mul_one,← kv_len k l,List.take_left]
   rw [hle] at hgrow hc' ⊢
   rw [ht,hfl,hrow,← hkx]
   refine hK _ b' _ rfl (.inr hb') (.inr ⟨b',c',(List.range ((c'-(l.length+l2.length))*1)).map fun i => [AV.int k z].getD (i % 1) .any,by rw [hll],ASt.set_same _ _ _,h0 b' hb',by omega,?_,hz _⟩)
   rw [hll,List.length_map,List.length_range]
   omega
end
theorem xClo64_own (k:SK) {σ:ASt} {l:List Nat} (h0:l ≠ []) (hl:l.length<=1000):ACalls Tryz.prog 92 [.sl k (kv .u64 l)] σ fun r σ'=>∃ X c R,σ X=none/\r = .msl X 0 l.length c/\l.length<=c/\c<=l.length+R.length/\leaves R=true/\σ'=σ.set X (some (.obj (kv .u64 l++R))):=by
 have hne:kv .u64 l ≠ []:=by cases l with
  | nil=>exact absurd rfl h0
  | cons x l=>intro h;cases h
 have hkl:=kv_len .u64 l
 have hpos:0<l.length:=List.length_pos_iff.2 h0
 have hi:=fun (neg:Bool) (τ:ASt) (K:AV->ASt->Prop)=>isnC_sl (KK:=K) (σ:=τ) (neg:=neg) (k:=k) hne
 have hw:=kv_well .u64 l
 have hlv:=kv_leaves .u64 l
 have hfl:=kv_flat .u64 l
 have hz:=own_zero .u64 0
 generalize kv .u64 l=KV at *
 refine a92 (by simp) ?_
 simp (disch:=first|assumption|omega|(simp only [List.length_append,List.length_cons,List.length_nil];omega)) only [go_sem,hi]
 have z0:([]:List AV).length=0:=rfl
 refine appO_by rfl hw (by rw [hfl];exact hlv) (by rw [z0];omega) (by rw [z0];omega) (by omega) fun b c hb hc=>?_
 rw [z0,Nat.zero_add] at hc ⊢
 rw [hfl]
 unfold ownRow
 simp (disch:=first|assumption|omega|(simp only [List.length_append,List.length_cons,List.length_nil];omega)) only [go_sem]
 exact retC_by (.refl _) (.refl _) ⟨b,c,_,hb,by rw [hkl];rfl,by omega,by rw [List.length_map,List.length_range];omega,hz _,rfl⟩
section
variable {base B σ:ASt} {p kk:Nat} {m:Int} {pg:Pgs} {k:IntKind} {v:AV} {l:List Nat}
theorem OwnR.appsP (h:OwnR base B k v l) (hp:PoolAt B σ p m kk pg) (hk:Kept base B) (hck:CkT base) {l2:List Nat} (hl:l.length+l2.length<=10000) (hne:l2 ≠ []) {e:TypeId} {kl:SK} {z:Int} {K:AV->ASt->Prop}
  (hK:∀ v' σ' B',PoolAt B' σ' p m kk pg->Kept base B'->(∀ z r,B z=some r->blkV v≠some z->B' z=some r)->(∀ X,blkV v'=some X->blkV v=some X\/B X=none)->OwnR base B' k v' (l++l2)->K v' σ') :
  appC e 1 8 [.int k z] v (.sl kl (kv k l2)) σ K:=by
 have ho:OwnR base σ k v l:=h.mono fun X r _ hX=>hp.at hX
 have hz:∀ x,σ x=none->B x=none:=fun x hx=>by
  cases hc:B x with
  | none=>rfl
  | some r=>rw [hp.at hc] at hx;cases hx
 refine ho.apps (fun x hx=>hk.gone (hz x hx)) hl hne fun v' X r hX hXo hv'=>?_
 have hbX:base X=none:=hXo.elim (fun q=>(h.in q).1) (fun q=>hk.gone (hz X q))
 refine hK v' _ (B.set X (some r)) (hp.set _ (hXo.elim (fun q => .inl (by obtain ⟨_,q,hq⟩:=h.in q;rw [hq];simp)) .inr) (ck_ne hck hbX)) (hk.set hbX) (fun y q hy hyv=>?_) (fun Y hY=>?_) ?_
 ·by_cases hyX:y=X
  ·subst hyX
   rcases hXo with hXo|hXo
   ·exact absurd hXo hyv
   ·rw [hz y hXo] at hy;cases hy
  ·rw [ASt.set_ne hyX];exact hy
 ·rw [hX] at hY
  injection hY with hY;subst hY
  exact hXo.imp_right (hz X)
 ·refine hv'.mono fun Y q hY hq=>?_
  rw [hX] at hY
  injection hY with hY;subst hY
  rw [ASt.set_same] at hq ⊢;exact hq
theorem xClo64_P (k:SK) (hp:PoolAt B σ p m kk pg) (hk:Kept base B) (hck:CkT base) (h0:l ≠ []) (hl:l.length<=1000) :
  ACalls Tryz.prog 92 [.sl k (kv .u64 l)] σ fun r σ'=>∃ B',PoolAt B' σ' p m kk pg/\Kept base B'/\Kept B B'/\(∀ X,blkV r=some X->B X=none)/\OwnR base B' .u64 r l:=by
 refine (xClo64_own k h0 hl).mono ?_
 rintro r σ' ⟨X,c,R,hX,rfl,h1,h2,h3,rfl⟩
 have hBX:B X=none:=by
  cases hc:B X with
  | none=>rfl
  | some r=>rw [hp.at hc] at hX;cases hX
 have hbX:=hk.gone hBX
 exact ⟨_,hp.set _ (.inr hX) (ck_ne hck hbX),hk.set hbX,(Kept.refl B).set hBX,fun Y hY=>by injection hY with hY;subst hY;exact hBX,.inr ⟨X,c,R,rfl,ASt.set_same _ _ _,hbX,h1,h2,h3⟩⟩
open Classical in
theorem soft2 {na nb:Nat} {csa csb csa' csb':List AV} {D:Nat->Prop} (hk:Kept base B) (hab:na≠nb) (ha0:base na=none) (hb0:base nb=none) (ha:B na=some (.obj csa)) (hb:B nb=some (.obj csb))
  (hD:∀ z,D z->base z=none/\B z≠none/\z≠na/\z≠nb) (hck:CkT base) (hp:PoolAt B σ p m kk pg) (hcs:∀ σ2:ASt,(∀ z,D z->σ2 z=none)->Fzs σ σ2 csa csa'/\Fzs σ σ2 csb csb') :
  ∃ σ2,GDrop σ σ2/\PoolAt ((base.set na (some (.obj csa'))).set nb (some (.obj csb'))) σ2 p m kk pg:=by
 obtain ⟨σ2,hσ2⟩:∃ σ2:ASt,σ2=fun z=>if z=na then some (.obj csa') else if z=nb then some (.obj csb') else if D z then none else σ z:=⟨_,rfl⟩
 have e1:σ2 na=some (.obj csa'):=by rw [hσ2];exact if_pos rfl
 have e2:σ2 nb=some (.obj csb'):=by rw [hσ2];show (if _ then _ else _)=_;rw [if_neg (Ne.symm hab),if_pos rfl]
 have e3:∀ z,D z->σ2 z=none:=fun z hz=>by rw [hσ2];show (if _ then _ else _)=_;rw [if_neg (hD z hz).2.2.1,if_neg (hD z hz).2.2.2,if_pos hz]
 have e4:∀ z,z≠na->z≠nb->¬ D z->σ2 z=σ z:=fun z h1 h2 h3=>by rw [hσ2];show (if _ then _ else _)=_;rw [if_neg h1,if_neg h2,if_neg h3]
 obtain ⟨f1,f2⟩:=hcs σ2 e3
 refine ⟨σ2,fun z=>?_,hp.frame ⟨fun z r h1 h2=>?_,fun z r h1=>?_,fun z r h1 h2=>?_⟩ ?_⟩
 ·by_cases h1:z=na
  ·subst h1;exact .inr (.inr ⟨_,_,hp.at ha,e1,f1⟩)
  by_cases h2:z=nb
  ·subst h2;exact .inr (.inr ⟨_,_,hp.at hb,e2,f2⟩)
  by_cases h3:D z
  ·exact .inr (.inl (e3 z h3))
  ·exact .inl (e4 z h1 h2 h3)
 ·rw [e4 z (fun e=>by rw [e,ha] at h1;cases h1) (fun e=>by rw [e,hb] at h1;cases h1) (fun h=>(hD z h).2.1 h1)];exact h2
 ·by_cases hzb:z=nb
  ·subst hzb;rw [ASt.set_same] at h1;rw [e2];exact h1
  rw [ASt.set_ne hzb] at h1
  by_cases hza:z=na
  ·subst hza;rw [ASt.set_same] at h1;rw [e1];exact h1
  rw [ASt.set_ne hza] at h1
  rw [e4 z hza hzb (fun h=>by rw [(hD z h).1] at h1;cases h1)]
  exact hp.at (hk z r h1)
 ·rw [ASt.set_ne (fun e=>by rw [e,hb] at h1;cases h1),ASt.set_ne (fun e=>by rw [e,ha] at h1;cases h1)]
  exact hk.gone h1
 ·exact (hck.away (ck_ne hck ha0)).away (ck_ne hck hb0)
end
end Go.A
namespace Go.A
open Go.Proofs
/-! 122: tabular/tree.even -/
def c122_17:ACode := .seq (.seq (.ops [ oq 18 (.mv (.t 0)),oq 19 (.nc (.t 18)),oq 20 (.fa 1 (.t 19)),oq 21 (.ld none (.t 20)),oq 22 (.len (.t 21)),oq 23 (.mv (.t 1)),oq 24 (.nc (.t 23)),oq 25 (.fa 1 (.t 24)),oq 26 (.ld none (.t 25)),oq 27 (.len (.t 26)),oq 28 (.bin .add (.t 22) (.t 27)),oq 29 (.bin .leq (.t 28) (.v (.int .i64 30)))]) (.cond (.t 29) (.seq (.ops [ oq 30 (.mv (.t 0)),oq 31 (.mv (.t 0)),oq 32 (.mv (.t 0)),oq 33 (.nc (.t 32)),oq 34 (.fa 1 (.t 33)),oq 35 (.ld none (.t 34)),oq 36 (.mv (.t 1)),oq 37 (.nc (.t 36)),oq 38 (.fa 1 (.t 37)),oq 39 (.ld none (.t 38)),oq 41 (.mv (.t 0)),oq 42 (.nc (.t 41)),oq 43 (.fa 2 (.t 42)),oq 44 (.ld none (.t 43)),oq 45 (.mv (.t 1)),oq 46 (.nc (.t 45)),oq 47 (.fa 2 (.t 46)),oq 48 (.ld none (.t 47)),⟨some 40,none,.e (.app 33 1 8 [(.int .u64 0)] (.t 35) (.t 39)),[⟨none,.ld none (.t 43),44⟩,⟨none,.ld none (.t 47),48⟩]⟩,oe 49 (.app 33 1 8 [(.int .u64 0)] (.t 44) (.t 48)),oq 50 (.nc (.t 30)),oq 51 (.fa 1 (.t 50)),oz (.store 1 (.t 51) (.t 40)),oq 52 (.nc (.t 31)),oq 53 (.fa 2 (.t 52)),oz (.store 1 (.t 53) (.t 49))]) (.seq (.ops [ oq 6 (.mv (.v (.int .u64 0))),oq 7 (.mv (.v (.bool true)))]) .ret)) .skip)) (.seq (.ops [ oq 54 (.mv (.t 0)),oq 55 (.nc (.t 54)),oq 56 (.fa 1 (.t 55)),oq 57 (.ld none (.t 56)),oq 59 (.mv (.t 1)),oq 60 (.nc (.t 59)),oq 61 (.fa 1 (.t 60)),oq 62 (.ld none (.t 61)),oq 64 (.mv (.t 0)),oq 65 (.nc (.t 64)),oq 66 (.fa 2 (.t 65)),oq 67 (.ld none (.t 66)),oq 69 (.mv (.t 1)),oq 70 (.nc (.t 69)),oq 71 (.fa 2 (.t 70)),oq 72 (.ld none (.t 71)),⟨some 58,none,.e (.call 92 [(.t 57)]),[⟨none,.ld none (.t 61),62⟩,⟨none,.ld none (.t 66),67⟩,⟨none,.ld none (.t 71),72⟩]⟩,⟨some 63,none,.e (.app 33 1 8 [(.int .u64 0)] (.t 58) (.t 62)),[⟨none,.ld none (.t 66),67⟩,⟨none,.ld none (.t 71),72⟩]⟩,⟨some 68,none,.e (.call 92 [(.t 67)]),[⟨none,.ld none (.t 71),72⟩]⟩,oe 73 (.app 33 1 8 [(.int .u64 0)] (.t 68) (.t 72)),oq 8 (.mv (.t 63)),oq 9 (.mv (.t 73))]) (.seq (.ops [ oq 74 (.mv (.t 8)),oq 75 (.len (.t 74)),oq 76 (.bin .quo (.t 75) (.v (.int .i64 2))),oq 10 (.mv (.t 76))]) (.seq (.ops [ oq 77 (.mv (.t 0)),oq 78 (.mv (.t 0)),oq 79 (.mv (.t 1)),oq 80 (.mv (.t 1)),oq 81 (.mv (.t 8)),oq 82 (.mv (.t 10)),oq 83 (.slto (false,1) (.t 81) (.t 82)),oq 84 (.mv (.t 9)),oq 85 (.mv (.t 10)),oq 86 (.slto (false,1) (.t 84) (.t 85)),oq 87 (.mv (.t 8)),oq 88 (.mv (.t 10)),oq 89 (.slfrom (false,1) (.t 87) (.t 88)),oq 90 (.mv (.t 9)),oq 91 (.mv (.t 10)),oq 92 (.slfrom (false,1) (.t 90) (.t 91)),oq 93 (.nc (.t 77)),oq 94 (.fa 1 (.t 93)),oz (.store 1 (.t 94) (.t 83)),oq 95 (.nc (.t 78)),oq 96 (.fa 2 (.t 95)),oz (.store 1 (.t 96) (.t 86)),oq 97 (.nc (.t 79)),oq 98 (.fa 1 (.t 97)),oz (.store 1 (.t 98) (.t 89)),oq 99 (.nc (.t 80)),oq 100 (.fa 2 (.t 99)),oz (.store 1 (.t 100) (.t 92))]) (.seq (.ops [ oq 101 (.mv (.t 8)),oq 102 (.mv (.t 10)),oq 103 (.ia 1 (.t 101) (.t 102)),oq 104 (.ld none (.t 103)),oq 6 (.mv (.t 104)),oq 7 (.mv (.v (.bool false)))]) .ret))))
def c122_35:ACode := .seq (.ops [ oq 105 (.mv (.t 0)),oq 106 (.nc (.t 105)),oq 107 (.fa 1 (.t 106)),oq 108 (.ld none (.t 107)),oq 110 (.mv (.t 2)),oq 111 (.bslv 1 [(.t 110)]),oq 113 (.mv (.t 1)),oq 114 (.nc (.t 113)),oq 115 (.fa 1 (.t 114)),oq 116 (.ld none (.t 115)),oq 118 (.mv (.t 0)),oq 119 (.nc (.t 118)),oq 120 (.fa 3 (.t 119)),oq 121 (.ld none (.t 120)),oq 123 (.mv (.t 1)),oq 124 (.nc (.t 123)),oq 125 (.fa 3 (.t 124)),oq 126 (.ld none (.t 125)),⟨some 109,none,.e (.call 92 [(.t 108)]),[⟨none,.ld none (.t 115),116⟩,⟨none,.ld none (.t 120),121⟩,⟨none,.ld none (.t 125),126⟩]⟩,⟨some 112,none,.e (.app 33 1 8 [(.int .u64 0)] (.t 109) (.t 111)),[⟨none,.ld none (.t 115),116⟩,⟨none,.ld none (.t 120),121⟩,⟨none,.ld none (.t 125),126⟩]⟩,⟨some 117,none,.e (.app 33 1 8 [(.int .u64 0)] (.t 112) (.t 116)),[⟨none,.ld none (.t 120),121⟩,⟨none,.ld none (.t 125),126⟩]⟩,⟨some 122,none,.e (.call 93 [(.t 121)]),[⟨none,.ld none (.t 125),126⟩]⟩,oe 127 (.app 3 1 8 [(.int .i64 0)] (.t 122) (.t 126)),oq 11 (.mv (.t 117)),oq 12 (.mv (.t 127))]) (.seq (.seq (.ops [ oq 128 (.mv (.t 12)),oq 129 (.len (.t 128)),oq 130 (.bin .leq (.t 129) (.v (.int .i64 40)))]) (.cond (.t 130) (.seq (.ops [ oq 131 (.mv (.t 0)),oq 132 (.mv (.t 0)),oq 133 (.mv (.t 11)),oq 134 (.mv (.t 12)),oq 135 (.nc (.t 131)),oq 136 (.fa 1 (.t 135)),oz (.store 1 (.t 136) (.t 133)),oq 137 (.nc (.t 132)),oq 138 (.fa 3 (.t 137)),oz (.store 1 (.t 138) (.t 134))]) (.seq (.ops [ oq 6 (.mv (.v (.int .u64 0))),oq 7 (.mv (.v (.bool true)))]) .ret)) .skip)) (.seq (.ops [ oq 139 (.mv (.t 12)),oq 140 (.len (.t 139)),oq 141 (.bin .quo (.t 140) (.v (.int .i64 2))),oq 13 (.mv (.t 141))]) (.seq (.ops [ oq 142 (.mv (.t 0)),oq 143 (.mv (.t 0)),oq 144 (.mv (.t 1)),oq 145 (.mv (.t 1)),oq 146 (.mv (.t 11)),oq 147 (.mv (.t 13)),oq 148 (.bin .sub (.t 147) (.v (.int .i64 1))),oq 149 (.slto (false,1) (.t 146) (.t 148)),oq 150 (.mv (.t 12)),oq 151 (.mv (.t 13)),oq 152 (.slto (false,1) (.t 150) (.t 151)),oq 153 (.mv (.t 11)),oq 154 (.mv (.t 13)),oq 155 (.slfrom (false,1) (.t 153) (.t 154)),oq 156 (.mv (.t 12)),oq 157 (.mv (.t 13)),oq 158 (.slfrom (false,1) (.t 156) (.t 157)),oq 159 (.nc (.t 142)),oq 160 (.fa 1 (.t 159)),oz (.store 1 (.t 160) (.t 149)),oq 161 (.nc (.t 143)),oq 162 (.fa 3 (.t 161)),oz (.store 1 (.t 162) (.t 152)),oq 163 (.nc (.t 144)),oq 164 (.fa 1 (.t 163)),oz (.store 1 (.t 164) (.t 155)),oq 165 (.nc (.t 145)),oq 166 (.fa 3 (.t 165)),oz (.store 1 (.t 166) (.t 158))]) (.seq (.ops [ oq 167 (.mv (.t 11)),oq 168 (.mv (.t 13)),oq 169 (.bin .sub (.t 168) (.v (.int .i64 1))),oq 170 (.ia 1 (.t 167) (.t 169)),oq 171 (.ld none (.t 170)),oq 6 (.mv (.t 171)),oq 7 (.mv (.v (.bool false)))]) .ret))))
def c122_37:ACode := .seq (.ops [ oq 6 (.mv (.v (.int .u64 0))),oq 7 (.mv (.v (.bool false)))]) (.seq (.seq (.ops [ oq 14 (.mv (.t 0)),oq 15 (.nc (.t 14)),oq 16 (.fa 0 (.t 15)),oq 17 (.ld none (.t 16))]) (.cond (.t 17) c122_17 .skip)) c122_35)
@[go_sem] def c122_17_wp:=wp_of c122_17.eq_1
@[go_sem] def c122_37_wp:=wp_of c122_37.eq_1
def c122:AFn:=⟨172,[.t 6,.t 7],c122_37⟩
theorem c122_ok:compF Tryz.prog Tryz.f122=some c122:=by kernel_rfl
theorem a122 {args:List AV} {σ:ASt} {R:AV->ASt->Prop} (hl:args.length<=172) (h:c122_37.wp Tryz.prog (RetQ [.t 6,.t 7] R) (init args) σ):ACalls Tryz.prog 122 args σ R:=acalls_of Tryz.func122 c122_ok hl h
end Go.A
namespace Go.A
open Go.Proofs
section
variable {base base' σ σ':ASt} {p k page fa xa c t root na nb:Nat} {m:Int} {pg:Pgs} {r:Role} {ks vs ds ks2 vs2:List Nat}
set_option maxHeartbeats 1000000 in
theorem treven_one {x y:AV} {rb:Role} {z:Int} (hm:LeafM base base' na x y ks vs) (hp:PoolAt base' σ p m k pg) (hck:CkT base) (hb:base nb=some rb) (hrb:NodeR rb (.leaf ks2 vs2)) (hv:vs.length=ks.length) (hv2:vs2.length=ks2.length) (h2:ks2 ≠ []) (hs:ks.length+ks2.length<=30) :
  ACalls Tryz.prog 122 [.ptr na 0,.ptr nb 0,.int .u64 z] σ fun w σ'=>w = .tuple [.int .u64 0,.bool true]/\∃ ra,NodeR ra (.leaf (ks++ks2) (vs++vs2))/\PoolAt (base.set na (some ra)) σ' p m k pg:=by
 obtain ⟨k1,k2,k3,rfl⟩:=hrb
 have hv2n:vs2 ≠ []:=fun e=>h2 (List.eq_nil_of_length_eq_zero (by rw [<-hv2,e];rfl))
 have hna:=hp.at hm.hn
 have hb1:=hm.kept _ _ hb
 have hnb:=hp.at hb1
 have hcx:=hm.ha.cell
 have hcy:=hm.hb.cell
 have hl1:=hm.ha.len
 have hl2:=kv_len .u64 ks2
 have hab:na≠nb:=fun e=>by rw [<-e,hm.new] at hb;cases hb
 have hsm:(ks.length:Int)+(ks2.length:Int)<=30:=by omega
 suffices hS:ACalls Tryz.prog 122 [.ptr na 0,.ptr nb 0,.int .u64 z] σ fun w σ'=>w = .tuple [.int .u64 0,.bool true]/\∃ v1 v2 B3,LeafM base B3 na v1 v2 (ks++ks2) (vs++vs2)/\PoolAt B3 σ' p m k pg by
  refine hS.post ?_
  rintro w σ' ⟨rfl,v1,v2,B3,hm3,hp3⟩
  obtain ⟨σ2,r,g1,g2,g3,g4⟩:=hm3.soft hck hp3
  exact ⟨_,σ2,g1.wkv (.refl _),rfl,r,g2,g4⟩
 refine a122 (by simp) ?_
 simp (disch:=first|assumption|omega|(simp only [List.length_append,List.length_cons,List.length_nil];omega)) only [go_sem,hna,hnb,hcx,hcy,hl1,hl2,hsm]
 refine hm.ha.appsP hp hm.kept hck (by omega) h2 fun v1 σ1 B1 hp1 hk1 hs1 hf1 ho1=>?_
 have hna1:=hs1 _ _ hm.hn hm.na
 have hnb1:=hs1 _ _ hb1 (fun e=>by have:=(hm.ha.in e).1;rw [hb] at this;cases this)
 have hsa1:=hp1.at hna1
 have hsb1:=hp1.at hnb1
 have hoy1:OwnR base B1 .u64 y vs:=hm.hb.mono fun X r hX hr=>hs1 X r hr (fun e=>hm.ab X e hX)
 have hc1:=ho1.cell
 simp (disch:=first|assumption|omega|(simp only [List.length_append,List.length_cons,List.length_nil];omega)) only [go_sem,hsa1,hsb1,hcx,hcy]
 refine hoy1.appsP hp1 hk1 hck (by omega) hv2n fun v2 σ2 B2 hp2 hk2 hs2 hf2 ho2=>?_
 have hna2:=hs2 _ _ hna1 hm.nb
 have hsa2:=hp2.at hna2
 have hc2:=ho2.cell
 have nv1:blkV v1≠some na:=fun e=>(hf1 na e).elim hm.na (fun q=>by rw [hm.hn] at q;cases q)
 have nv2:blkV v2≠some na:=fun e=>(hf2 na e).elim hm.nb (fun q=>by rw [hna1] at q;cases q)
 have n12:∀ X,blkV v1=some X->blkV v2≠some X:=fun X h1 e=>by
  rcases hf2 X e with q|q
  ·rcases hf1 X h1 with q1|q1
   ·exact hm.ab X q1 q
   ·obtain ⟨_,r,q2⟩:=hm.hb.in q
    rw [q2] at q1;cases q1
  ·obtain ⟨_,r,q2⟩:=ho1.in h1
   rw [q2] at q;cases q
 have ho1':OwnR base B2 .u64 v1 (ks++ks2):=ho1.mono fun X r hX hr=>hs2 X r hr (fun e=>(hf1 X hX).elim (fun q=>hm.ab X q e) (fun q=>by obtain ⟨_,r,q2⟩:=hm.hb.in e;rw [q2] at q;cases q))
 have hp3:=hp2.set (x:=na) (some (.obj [.bool true,v1,v2,.sl .full []])) (.inl (by rw [hna2];simp)) (ck_ne hck hm.new)
 simp (disch:=first|assumption|omega|(simp only [List.length_append,List.length_cons,List.length_nil];omega)) only [go_sem,hsa2,hcx,hcy,hc1,hc2]
 refine retC_by (.refl _) (.refl _) ⟨rfl,v1,v2,_,⟨hk2.set hm.new,hm.new,ASt.set_same _ _ _,ho1'.set nv1,ho2.set nv2,nv1,nv2,n12⟩,?_⟩
 exact hp3
theorem fz_part {σ σ2:ASt} {kk:IntKind} {X o n c:Nat} {L:List Nat} {R:List AV} (h1:σ X=some (.obj (kv kk L++R))) (h2:σ2 X=none) (ho:o+n<=L.length) (hc:n<=c):Fz σ σ2 (.msl X o n c) (.sl .shr (kv kk ((L.drop o).take n))):=by
 have hl:((L.drop o).take n).length=n:=by rw [List.length_take,List.length_drop];omega
 have hk:=kv_len kk L
 refine .msl o n c 1 (kv kk ((L.drop o).take n)) h1 h2 (by rw [kv_len,hl]) hc (fun x hx=>by rw [kv_cells hx];rfl) ?_
 rw [kv_flat,Nat.mul_one,List.drop_append_of_le_length (by omega),List.take_append_of_le_length (by rw [List.length_drop];omega),kv_drop,kv_take]
set_option maxHeartbeats 1000000 in
theorem treven_two {ra rb:Role} {z:Int} (hp:PoolAt ((base.set na (some ra)).set nb (some rb)) σ p m k pg) (hck:CkT base) (hab:na≠nb) (ha0:base na=none) (hb0:base nb=none) (hra:NodeR ra (.leaf ks vs)) (hrb:NodeR rb (.leaf ks2 vs2)) (hv:vs.length=ks.length) (hv2:vs2.length=ks2.length)
  (h1:ks ≠ []) (h2:ks2 ≠ []) (hs:30<ks.length+ks2.length) (hl:ks.length+ks2.length<=1000) {h:Nat} (hh:h=(ks.length+ks2.length) / 2) :
  ACalls Tryz.prog 122 [.ptr na 0,.ptr nb 0,.int .u64 z] σ fun w σ'=>∃ (key:Nat) (ra rb:Role),w = .tuple [.int .u64 key,.bool false]/\(ks++ks2)[h]? = some key/\NodeR ra (.leaf ((ks++ks2).take h) ((vs++vs2).take h))/\NodeR rb (.leaf ((ks++ks2).drop h) ((vs++vs2).drop h)) ∧
   PoolAt ((base.set na (some ra)).set nb (some rb)) σ' p m k pg:=by
 obtain ⟨k1,k2,k3,rfl⟩:=hra
 obtain ⟨l1,l2,l3,rfl⟩:=hrb
 obtain ⟨K,hK⟩:∃ K,K=ks++ks2:=⟨_,rfl⟩
 obtain ⟨V,hV⟩:∃ V,V=vs++vs2:=⟨_,rfl⟩
 have hKl:K.length=ks.length+ks2.length:=by rw [hK,List.length_append]
 have hVl:V.length=ks.length+ks2.length:=by rw [hV,List.length_append];omega
 have hvn:vs ≠ []:=fun e=>h1 (List.eq_nil_of_length_eq_zero (by rw [<-hv,e];rfl))
 have hv2n:vs2 ≠ []:=fun e=>h2 (List.eq_nil_of_length_eq_zero (by rw [<-hv2,e];rfl))
 have hk0:Kept base ((base.set na (some (.obj [.bool true,.sl k1 (kv .u64 ks),.sl k2 (kv .u64 vs),.sl k3 []]))).set nb (some (.obj [.bool true,.sl l1 (kv .u64 ks2),.sl l2 (kv .u64 vs2),.sl l3 []]))):=((Kept.refl base).set ha0).set hb0
 have hb:=ASt.set_same (base.set na (some (.obj [.bool true,.sl k1 (kv .u64 ks),.sl k2 (kv .u64 vs),.sl k3 []]))) nb (some (.obj [.bool true,.sl l1 (kv .u64 ks2),.sl l2 (kv .u64 vs2),.sl l3 []]))
 have ha:((base.set na (some (.obj [.bool true,.sl k1 (kv .u64 ks),.sl k2 (kv .u64 vs),.sl k3 []]))).set nb (some (.obj [.bool true,.sl l1 (kv .u64 ks2),.sl l2 (kv .u64 vs2),.sl l3 []]))) na=some (.obj [.bool true,.sl k1 (kv .u64 ks),.sl k2 (kv .u64 vs),.sl k3 []]):=by rw [ASt.set_ne hab,ASt.set_same]
 generalize (base.set na (some (.obj [.bool true,.sl k1 (kv .u64 ks),.sl k2 (kv .u64 vs),.sl k3 []]))).set nb (some (.obj [.bool true,.sl l1 (kv .u64 ks2),.sl l2 (kv .u64 vs2),.sl l3 []]))=B0 at *
 have hna:=hp.at ha
 have hnb:=hp.at hb
 have q1:=kv_len .u64 ks
 have q2:=kv_len .u64 ks2
 have hsm:¬ (ks.length:Int)+(ks2.length:Int)<=30:=by omega
 obtain ⟨key,hkey⟩:∃ key,K[h]? = some key:=⟨_,List.getElem?_eq_getElem (by omega)⟩
 suffices hS:ACalls Tryz.prog 122 [.ptr na 0,.ptr nb 0,.int .u64 z] σ fun w σ'=>w = .tuple [.int .u64 key,.bool false]/\∃ X1 X2 c1 c2 R1 R2 B3,Kept base B3/\PoolAt B3 σ' p m k pg/\(base X1=none/\base X2=none/\X1≠na/\X1≠nb/\X2≠na/\X2≠nb/\h<=c1/\K.length-h<=c1-h/\h<=c2/\V.length-h<=c2-h) ∧
   B3 X1=some (.obj (kv .u64 K++R1))/\B3 X2=some (.obj (kv .u64 V++R2)) ∧
   B3 na=some (.obj [.bool true,.msl X1 0 h c1,.msl X2 0 h c2,.sl k3 []])/\B3 nb=some (.obj [.bool true,.msl X1 h (K.length-h) (c1-h),.msl X2 h (V.length-h) (c2-h),.sl l3 []]) by
  refine hS.post ?_
  rintro w σ' ⟨rfl,X1,X2,c1,c2,R1,R2,B3,g1,g2,⟨g3,g4,g5,g6,g7,g8,g9,g10,g11,g12⟩,x1,x2,x3,x4⟩
  have e1:K.drop 0=K:=List.drop_zero
  have e2:V.drop 0=V:=List.drop_zero
  have e3:(K.drop h).take (K.length-h)=K.drop h:=List.take_of_length_le (by rw [List.length_drop];omega)
  have e4:(V.drop h).take (V.length-h)=V.drop h:=List.take_of_length_le (by rw [List.length_drop];omega)
  obtain ⟨σ2,y1,y2⟩:=soft2 (D:=fun z=>z=X1\/z=X2) (csa' := [.bool true,.sl .shr (kv .u64 ((K.drop 0).take h)),.sl .shr (kv .u64 ((V.drop 0).take h)),.sl k3 []]) (csb' := [.bool true,.sl .shr (kv .u64 ((K.drop h).take (K.length-h))),.sl .shr (kv .u64 ((V.drop h).take (V.length-h))),.sl l3 []]) g1 hab ha0 hb0 x3 x4
   (fun z hz=>by
    rcases hz with rfl|rfl
    ·exact ⟨g3,by rw [x1];simp,g5,g6⟩
    ·exact ⟨g4,by rw [x2];simp,g7,g8⟩) hck g2 fun σ2 hD=>by
     have d1:=hD X1 (.inl rfl)
     have d2:=hD X2 (.inr rfl)
     exact ⟨.cons (.refl _) (.cons (fz_part (g2.at x1) d1 (by omega) g9) (.cons (fz_part (g2.at x2) d2 (by omega) g11) (.cons (.refl _) .nil))),
      .cons (.refl _) (.cons (fz_part (g2.at x1) d1 (by omega) g10) (.cons (fz_part (g2.at x2) d2 (by omega) g12) (.cons (.refl _) .nil)))⟩
  rw [e1,e2,e3,e4] at y2
  exact ⟨_,σ2,y1.wkv (.refl _),key,_,_,rfl,hK▸hkey,⟨_,_,_,by rw [hK,hV]⟩,⟨_,_,_,by rw [hK,hV]⟩,y2⟩
 have w1:IntKind.wrap .i64 ((K.length:Int).tdiv 2)=(h:Int):=by
  rw [Int.tdiv_eq_ediv_of_nonneg (by omega),show (K.length:Int) / 2=(h:Int) by omega]
  rw [IntKind.wrap_i64]
  omega
 refine a122 (by simp) ?_
 simp (disch:=first|assumption|omega|(simp only [List.length_append,List.length_cons,List.length_nil];omega)) only [go_sem,hna,hnb,q1,q2,hsm]
 refine (xClo64_P k1 hp hk0 hck h1 (by omega)).mono ?_
 rintro v0 σ1 ⟨B1,hp1,hk1,hkk1,hf1,ho1⟩
 have a1:=hkk1 _ _ ha
 have b1:=hkk1 _ _ hb
 have sa1:=hp1.at a1
 have sb1:=hp1.at b1
 simp (disch:=first|assumption|omega|(simp only [List.length_append,List.length_cons,List.length_nil];omega)) only [go_sem,sa1,sb1]
 refine ho1.appsP hp1 hk1 hck (by omega) h2 fun v1 σ2 B2 hp2 hk2 hs2 hf2 ho2=>?_
 have a2:=hs2 _ _ a1 (fun e=>by have:=hf1 na e;rw [ha] at this;cases this)
 have b2:=hs2 _ _ b1 (fun e=>by have:=hf1 nb e;rw [hb] at this;cases this)
 have sa2:=hp2.at a2
 have sb2:=hp2.at b2
 rw [<-hK] at ho2
 simp (disch:=first|assumption|omega|(simp only [List.length_append,List.length_cons,List.length_nil];omega)) only [go_sem,sa2,sb2]
 refine (xClo64_P k2 hp2 hk2 hck hvn (by omega)).mono ?_
 rintro v2 σ3 ⟨B3,hp3,hk3,hkk3,hf3,ho3⟩
 have a3:=hkk3 _ _ a2
 have b3:=hkk3 _ _ b2
 have sa3:=hp3.at a3
 have sb3:=hp3.at b3
 have ho2':OwnR base B3 .u64 v1 K:=ho2.mono fun X r _ hX=>hkk3 X r hX
 simp (disch:=first|assumption|omega|(simp only [List.length_append,List.length_cons,List.length_nil];omega)) only [go_sem,sa3,sb3]
 refine ho3.appsP hp3 hk3 hck (by omega) hv2n fun v3 σ4 B4 hp4 hk4 hs4 hf4 ho4=>?_
 have a4:=hs4 _ _ a3 (fun e=>by have:=hf3 na e;rw [a2] at this;cases this)
 have b4:=hs4 _ _ b3 (fun e=>by have:=hf3 nb e;rw [b2] at this;cases this)
 rw [<-hV] at ho4
 have hcc:∀ X,blkV v1=some X->blkV v2≠some X:=fun X hX e=>by
  obtain ⟨_,r,q⟩:=ho2.in hX
  rw [hf3 X e] at q;cases q
 have ho2'':OwnR base B4 .u64 v1 K:=ho2'.mono fun X r hX hr=>hs4 X r hr (hcc X hX)
 have hKn:K ≠ []:=fun e=>by rw [e] at hKl;simp only [List.length_nil] at hKl;omega
 have hVn:V ≠ []:=fun e=>by rw [e] at hVl;simp only [List.length_nil] at hVl;omega
 obtain ⟨X1,c1,R1,rfl,x1,x2,x3,x4,x5⟩:=ho2''.resolve_left fun q=>hKn q.2
 obtain ⟨X2,c2,R2,rfl,y1,y2,y3,y4,y5⟩:=ho4.resolve_left fun q=>hVn q.2
 have hhd:∀ {L:List Nat} {R cs:List AV} {X n:Nat},L ≠ []->B4 X=some (.obj (kv .u64 L++R))->B4 n=some (.obj (.bool true::cs))->X≠n:=fun {L R cs X n} hL h1 h2 e=>by
  rw [e,h2] at h1
  injection h1 with h1
  injection h1 with h1
  cases L with
  | nil=>exact hL rfl
  | cons a L=>cases h1
 have n1a:=hhd hKn x1 a4
 have n1b:=hhd hKn x1 b4
 have n2a:=hhd hVn y1 a4
 have n2b:=hhd hVn y1 b4
 clear hhd
 have s1:slV (false,1) (.msl X1 0 K.length c1) 0 (h:Int)=some (.msl X1 0 h c1):=slV_nat (b:=X1) (o:=0) (n:=K.length) (c:=c1) (lo:=0) (hi:=h) (by omega) (by omega) (by omega)
 have s2:slV (false,1) (.msl X2 0 V.length c2) 0 (h:Int)=some (.msl X2 0 h c2):=slV_nat (b:=X2) (o:=0) (n:=V.length) (c:=c2) (lo:=0) (hi:=h) (by omega) (by omega) (by omega)
 have s3:slV (false,1) (.msl X1 0 K.length c1) (h:Int) (K.length:Int)=some (.msl X1 h (K.length-h) (c1-h)):=by
  have:=slV_nat (b:=X1) (o:=0) (n:=K.length) (c:=c1) (lo:=h) (hi:=K.length) (by omega) (by omega) (by omega)
  rw [Nat.zero_add] at this
  exact this
 have s4:slV (false,1) (.msl X2 0 V.length c2) (h:Int) (V.length:Int)=some (.msl X2 h (V.length-h) (c2-h)):=by
  have:=slV_nat (b:=X2) (o:=0) (n:=V.length) (c:=c2) (lo:=h) (hi:=V.length) (by omega) (by omega) (by omega)
  rw [Nat.zero_add] at this
  exact this
 have sa4:=hp4.at a4
 have sb4:=hp4.at b4
 have sx:=hp4.at x1
 have hg:=kv_get' (k := .u64) (R:=R1) hkey
 have hlt:(h:Int)<(K.length:Int):=by omega
 simp (disch:=first|assumption|omega|(simp only [List.length_append,List.length_cons,List.length_nil];omega)) only [go_sem,w1,s1,s2,s3,s4,sa4,sb4,sx,n1a,n1b,n2a,n2b,hab,hg,hlt,Int.toNat_natCast,Nat.zero_add]
 have hp5:=(hp4.set (x:=na) (some (.obj [.bool true,.msl X1 0 h c1,.msl X2 0 h c2,.sl k3 []])) (.inl (by rw [a4];simp)) (ck_ne hck ha0)).set (x:=nb) (some (.obj [.bool true,.msl X1 h (K.length-h) (c1-h),.msl X2 h (V.length-h) (c2-h),.sl l3 []])) (.inl (by rw [ASt.set_ne (Ne.symm hab),b4];simp)) (ck_ne hck hb0)
 refine retC_by (.refl _) (.refl _) ⟨rfl,X1,X2,c1,c2,R1,R2,_,(hk4.set ha0).set hb0,hp5,⟨x2,y2,n1a,n1b,n2a,n2b,by omega,by omega,by omega,by omega⟩,?_,?_,?_,ASt.set_same _ _ _⟩
 ·rw [ASt.set_ne n1b,ASt.set_ne n1a];exact x1
 ·rw [ASt.set_ne n2b,ASt.set_ne n2a];exact y1
 ·rw [ASt.set_ne hab];exact ASt.set_same _ _ _
end
end Go.A
namespace Go.A
open Go.Proofs
/-! 97: (*tabular/tree.Tree).drop -/
def c97_52:ACode := .seq (.seq (.ops [ oq 34 (.mv (.t 11)),oq 35 (.nc (.t 34)),oq 36 (.fa 0 (.t 35)),oq 37 (.ld none (.t 36))]) (.cond (.t 37) (.seq (.ops [ oq 39 (.mv (.t 11)),oq 40 (.nc (.t 39)),oq 41 (.fa 1 (.t 40)),oq 42 (.ld none (.t 41)),oq 43 (.mv (.t 2)),oe 44 (.call 58 [(.t 42),(.t 43)]),oq 38 (.mv (.t 44)),oq 45 (.ext 0 (.t 38)),oq 46 (.ext 1 (.t 38)),oq 13 (.mv (.t 45)),oq 14 (.mv (.t 46))]) (.seq (.seq (.ops [ oq 47 (.mv (.t 14)),oq 48 (.un .not (.t 47))]) (.cond (.t 48) (.seq (.ops [ oq 8 (.mv (.v (.bool false))),oq 9 (.mv (.v (.bool false))),oq 10 (.mv (.v (.int .i64 0)))]) .ret) .skip)) (.seq (.ops [ oq 49 (.mv (.t 11)),oq 50 (.mv (.t 11)),oq 51 (.mv (.t 11)),oq 52 (.nc (.t 51)),oq 53 (.fa 1 (.t 52)),oq 54 (.ld none (.t 53)),oq 55 (.mv (.t 13)),oq 56 (.mv (.t 13)),oq 57 (.bin .add (.t 56) (.v (.int .i64 1))),oq 59 (.mv (.t 11)),oq 60 (.nc (.t 59)),oq 61 (.fa 2 (.t 60)),oq 62 (.ld none (.t 61)),oq 63 (.mv (.t 13)),oq 64 (.mv (.t 13)),oq 65 (.bin .add (.t 64) (.v (.int .i64 1))),⟨some 58,none,.e (.call 73 [(.t 54),(.t 55),(.t 57)]),[⟨none,.ld none (.t 61),62⟩]⟩,oe 66 (.call 73 [(.t 62),(.t 63),(.t 65)]),oq 67 (.nc (.t 49)),oq 68 (.fa 1 (.t 67)),oz (.store 1 (.t 68) (.t 58)),oq 69 (.nc (.t 50)),oq 70 (.fa 2 (.t 69)),oz (.store 1 (.t 70) (.t 66))]) (.seq (.ops [ oq 71 (.mv (.t 11)),oe 72 (.call 111 [(.t 71)]),oq 73 (.mv (.t 0)),oq 74 (.mv (.t 1)),oq 75 (.mv (.t 11)),oe 76 (.call 64 [(.t 73),(.t 74),(.t 75)]),oq 8 (.mv (.v (.bool true))),oq 9 (.mv (.t 72)),oq 10 (.mv (.t 76))]) .ret)))) .skip)) (.seq (.ops [ oq 77 (.mv (.t 11)),oq 78 (.mv (.t 2)),oe 79 (.call 59 [(.t 77),(.t 78)]),oq 15 (.mv (.t 79))]) (.seq (.ops [ oq 81 (.mv (.t 0)),oq 82 (.mv (.t 11)),oq 83 (.nc (.t 82)),oq 84 (.fa 3 (.t 83)),oq 85 (.ld none (.t 84)),oq 86 (.mv (.t 15)),oq 87 (.ia 1 (.t 85) (.t 86)),oq 88 (.ld none (.t 87)),oq 89 (.mv (.t 2)),oq 90 (.mv (.t 3)),oq 91 (.bin .add (.t 90) (.v (.int .i64 1))),oe 92 (.call 97 [(.t 81),(.t 88),(.t 89),(.t 91)]),oq 80 (.mv (.t 92)),oq 93 (.ext 0 (.t 80)),oq 94 (.ext 1 (.t 80)),oq 95 (.ext 2 (.t 80)),oq 16 (.mv (.t 93)),oq 17 (.mv (.t 94)),oq 12 (.mv (.t 95))]) (.seq (.seq (.ops [ oq 96 (.mv (.t 12)),oq 97 (.bin .neq (.t 96) (.v (.int .i64 0))),oq 98 (.mv (.t 97)),⟨some 99,some (98,false),.q (.mv (.t 17)),[]⟩,⟨some 100,some (98,false),.q (.un .not (.t 99)),[]⟩,oq 101 (.pick (.t 98) (.v (.bool true)) (.t 100))]) (.cond (.t 101) (.seq (.ops [ oq 102 (.mv (.t 16)),oq 103 (.mv (.t 12)),oq 8 (.mv (.t 102)),oq 9 (.mv (.v (.bool false))),oq 10 (.mv (.t 103))]) .ret) .skip)) (.seq (.seq (.ops [ oq 104 (.mv (.t 0)),oq 105 (.mv (.t 11)),oq 106 (.mv (.t 15)),oe 107 (.call 112 [(.t 104),(.t 105),(.t 106)]),oq 18 (.mv (.t 107))]) (.seq (.ops [ oq 108 (.mv (.t 18)),oq 109 (.bin .neq (.t 108) (.v (.int .i64 0)))]) (.cond (.t 109) (.seq (.ops [ oq 110 (.mv (.t 18)),oq 8 (.mv (.v (.bool false))),oq 9 (.mv (.v (.bool false))),oq 10 (.mv (.t 110))]) .ret) .skip))) (.seq (.seq (.ops [ oq 111 (.mv (.t 11)),oq 112 (.nc (.t 111)),oq 113 (.fa 3 (.t 112)),oq 114 (.ld none (.t 113)),oq 115 (.len (.t 114)),oq 116 (.bin .eql (.t 115) (.v (.int .i64 1)))]) (.cond (.t 116) (.seq (.ops [ oq 117 (.mv (.t 16)),oq 118 (.mv (.t 0)),oq 119 (.mv (.t 1)),oq 120 (.mv (.t 11)),oq 121 (.nc (.t 120)),oq 122 (.fa 3 (.t 121)),oq 123 (.ld none (.t 122)),oq 124 (.ia 1 (.t 123) (.v (.int .i64 0))),oq 125 (.ld none (.t 124)),oe 126 (.call 113 [(.t 118),(.t 119),(.t 125)]),oq 8 (.mv (.t 117)),oq 9 (.mv (.v (.bool true))),oq 10 (.mv (.t 126))]) .ret) .skip)) (.seq (.ops [ oq 127 (.mv (.t 16)),oq 128 (.mv (.t 11)),oe 129 (.call 111 [(.t 128)]),oq 130 (.mv (.t 0)),oq 131 (.mv (.t 1)),oq 132 (.mv (.t 11)),oe 133 (.call 64 [(.t 130),(.t 131),(.t 132)]),oq 8 (.mv (.t 127)),oq 9 (.mv (.t 129)),oq 10 (.mv (.t 133))]) .ret))))))
def c97_56:ACode := .seq (.ops [ oq 8 (.mv (.v (.bool false))),oq 9 (.mv (.v (.bool false))),oq 10 (.mv (.v (.int .i64 0)))]) (.seq (.ops [ oq 20 (.mv (.t 0)),oq 21 (.mv (.t 1)),oe 22 (.call 57 [(.t 20),(.t 21)]),oq 19 (.mv (.t 22)),oq 23 (.ext 0 (.t 19)),oq 24 (.ext 1 (.t 19)),oq 11 (.mv (.t 23)),oq 12 (.mv (.t 24))]) (.seq (.seq (.ops [ oq 25 (.mv (.t 12)),oq 26 (.bin .eql (.t 25) (.v (.int .i64 0))),oq 27 (.mv (.t 26)),⟨some 28,some (27,true),.q (.mv (.t 3)),[]⟩,⟨some 29,some (27,true),.q (.bin .gtr (.t 28) (.v (.int .i64 20))),[]⟩,oq 30 (.pick (.t 27) (.t 29) (.v (.bool false)))]) (.cond (.t 30) (.ops [ oq 12 (.mv (.v (.int .i64 3)))]) .skip)) (.seq (.seq (.ops [ oq 31 (.mv (.t 12)),oq 32 (.bin .neq (.t 31) (.v (.int .i64 0)))]) (.cond (.t 32) (.seq (.ops [ oq 33 (.mv (.t 12)),oq 8 (.mv (.v (.bool false))),oq 9 (.mv (.v (.bool false))),oq 10 (.mv (.t 33))]) .ret) .skip)) c97_52)))
@[go_sem] def c97_52_wp:=wp_of c97_52.eq_1
@[go_sem] def c97_56_wp:=wp_of c97_56.eq_1
def c97:AFn:=⟨134,[.t 8,.t 9,.t 10],c97_56⟩
theorem c97_ok:compF Tryz.prog Tryz.f97=some c97:=by kernel_rfl
theorem a97 {args:List AV} {σ:ASt} {R:AV->ASt->Prop} (hl:args.length<=134) (h:c97_56.wp Tryz.prog (RetQ [.t 8,.t 9,.t 10] R) (init args) σ):ACalls Tryz.prog 97 args σ R:=acalls_of Tryz.func97 c97_ok hl h
/-! 111: (*tabular/tree.node).poor -/
def c111_9:ACode := .seq (.ops [ oq 2 (.mv (.v (.bool false)))]) (.seq (.seq (.ops [ oq 3 (.mv (.t 0)),oq 4 (.nc (.t 3)),oq 5 (.fa 0 (.t 4)),oq 6 (.ld none (.t 5))]) (.cond (.t 6) (.seq (.ops [ oq 7 (.mv (.t 0)),oq 8 (.nc (.t 7)),oq 9 (.fa 1 (.t 8)),oq 10 (.ld none (.t 9)),oq 11 (.len (.t 10)),oq 12 (.bin .lss (.t 11) (.v (.int .i64 15))),oq 2 (.mv (.t 12))]) .ret) .skip)) (.seq (.ops [ oq 13 (.mv (.t 0)),oq 14 (.nc (.t 13)),oq 15 (.fa 3 (.t 14)),oq 16 (.ld none (.t 15)),oq 17 (.len (.t 16)),oq 18 (.bin .lss (.t 17) (.v (.int .i64 20))),oq 2 (.mv (.t 18))]) .ret))
@[go_sem] def c111_9_wp:=wp_of c111_9.eq_1
def c111:AFn:=⟨19,[.t 2],c111_9⟩
theorem c111_ok:compF Tryz.prog Tryz.f111=some c111:=by kernel_rfl
theorem a111 {args:List AV} {σ:ASt} {R:AV->ASt->Prop} (hl:args.length<=19) (h:c111_9.wp Tryz.prog (RetQ [.t 2] R) (init args) σ):ACalls Tryz.prog 111 args σ R:=acalls_of Tryz.func111 c111_ok hl h
end Go.A
namespace Go.A
open Go.Proofs
theorem delL_len {l:List Nat} {i:Nat} (h:i<l.length):(delL l i).length=l.length-1:=by
 unfold delL
 rw [List.length_append,List.length_take,List.length_drop]
 omega
theorem delL_mem {l:List Nat} {i x:Nat} (h:x∈delL l i):x∈l:=by
 unfold delL at h
 rw [List.mem_append] at h
 exact h.elim List.mem_of_mem_take List.mem_of_mem_drop
theorem u64L_del {l:List Nat} {i:Nat} (h:u64L l):u64L (delL l i):=fun y hy=>h y (delL_mem hy)
theorem u32L_del {l:List Nat} {i:Nat} (h:u32L l):u32L (delL l i):=fun y hy=>h y (delL_mem hy)
section
variable {base base' σ σ':ASt} {p k page fa xa c t root n:Nat} {m:Int} {pg:Pgs} {dirty:Bool} {b:List UInt8} {nd:TN} {r:Role} {ks vs ds:List Nat}
theorem trpoor_leaf (hn:σ n=some r) (hr:NodeR r (.leaf ks vs)):ACalls Tryz.prog 111 [.ptr n 0] σ fun v σ'=>v = .bool (decide (ks.length<15))/\σ'=σ:=by
 obtain ⟨k1,k2,k3,rfl⟩:=hr
 have hkl:=kv_len .u64 ks
 generalize kv .u64 ks=KS at *
 refine a111 (by simp) ?_
 by_cases h:ks.length<15
 ·have h':(ks.length:Int)<15:=by omega
  rw [decide_eq_true h]
  simp (disch:=first|assumption|omega|(simp only [List.length_append,List.length_cons,List.length_nil];omega)) only [go_sem,hn,hkl,h']
  exact retC_by (.refl _) (.refl _) ⟨rfl,rfl⟩
 ·have h':¬ (ks.length:Int)<15:=by omega
  rw [decide_eq_false h]
  simp (disch:=first|assumption|omega|(simp only [List.length_append,List.length_cons,List.length_nil];omega)) only [go_sem,hn,hkl,h']
  exact retC_by (.refl _) (.refl _) ⟨rfl,rfl⟩
theorem trpoor_inner (hn:σ n=some r) (hr:NodeR r (.inner ks ds)):ACalls Tryz.prog 111 [.ptr n 0] σ fun v σ'=>v = .bool (decide (ds.length<20))/\σ'=σ:=by
 obtain ⟨k1,k2,k3,rfl⟩:=hr
 have hkl:=kv_len .i64 ds
 generalize kv .i64 ds=KS at *
 refine a111 (by simp) ?_
 by_cases h:ds.length<20
 ·have h':(ds.length:Int)<20:=by omega
  rw [decide_eq_true h]
  simp (disch:=first|assumption|omega|(simp only [List.length_append,List.length_cons,List.length_nil];omega)) only [go_sem,hn,hkl,h']
  exact retC_by (.refl _) (.refl _) ⟨rfl,rfl⟩
 ·have h':¬ (ds.length:Int)<20:=by omega
  rw [decide_eq_false h]
  simp (disch:=first|assumption|omega|(simp only [List.length_append,List.length_cons,List.length_nil];omega)) only [go_sem,hn,hkl,h']
  exact retC_by (.refl _) (.refl _) ⟨rfl,rfl⟩
set_option maxHeartbeats 1000000 in
theorem trdrop_leaf (h:PoolAt base σ p m k pg) (ht:base t=some (.obj [.ptr p 0,.int .i64 root])) (hq:pg page=some b) (hl:TLeaf b ks vs) (hs:ks.Pairwise (· < ·)) {key deep:Nat} (hd:deep<=20) (hf:ks[lowI ks key]? = some key) :
  ACalls Tryz.prog 97 [.ptr t 0,.int .i64 page,.int .u64 key,.int .i64 deep] σ fun r σ'=>r = .tuple [.bool true,.bool (decide (ks.length<16)),.int .i64 0]/\∃ b',TLeaf b' (delL ks (lowI ks key)) (delL vs (lowI ks key))/\PoolAt base σ' p m k (pset pg page (some b')):=by
 have hd':¬ (20:Int)<(deep:Int):=by omega
 have hts:=h.at ht
 have hn0:=hl.n
 have hmost:=hl.most
 have hil:=(List.getElem?_eq_some_iff.1 hf).1
 refine a97 (by simp) ?_
 simp (disch:=first|assumption|omega|(simp only [List.length_append,List.length_cons,List.length_nil];omega)) only [go_sem,hts]
 refine (trload_leafM h ht hq hl).mono ?_
 rintro w σ1 ⟨n,x,y,base1,rfl,hm,hO,hp⟩
 have hn:=hp.at hm.hn
 have own:∀ {k:IntKind} {v:AV} {l:List Nat},OwnR base base1 k v l->OwnR base σ1 k v l:=fun {k v l} ho=>ho.mono fun X r hX hr=>hp.at hr
 have hbin:=(own hm.ha).bin64 (t:=key) (by omega) hs
 rw [decide_eq_true hf] at hbin
 simp (disch:=first|assumption|omega|(simp only [List.length_append,List.length_cons,List.length_nil];omega)) only [go_sem,hn,hd']
 refine hbin.mono ?_
 rintro w σ2 ⟨rfl,rfl⟩
 generalize lowI ks key=i at *
 have hi1:=(own hm.ha).del64 (i:=i) hil (by omega)
 have hb2:OwnR base (lessB σ2 x) .u64 y vs:=(own hm.hb).mono fun X r hX hr=>by rw [lessB_eq (fun e=>hm.ab X e hX)];exact hr
 have hi2:=hb2.del64 (i:=i) (by omega) (by omega)
 have hlen:(delL ks i).length=ks.length-1:=delL_len hil
 have hlen2:(delL vs i).length=ks.length-1:=by rw [delL_len (by omega),hn0]
 have hku:u64L (delL ks i):=u64L_del hl.ku
 have hvu:u64L (delL vs i):=u64L_del hl.vu
 have hxn:=node_hard hO hm.new hm.hn hm.ha hm.hb hm.na hm.nb hm.ab h.ck hp (.obj [.bool true,.sl .shr (kv .u64 (delL ks i)),.sl .shr (kv .u64 (delL vs i)),.sl .full []])
 have hr:NodeR (.obj [.bool true,.sl .shr (kv .u64 (delL ks i)),.sl .shr (kv .u64 (delL vs i)),.sl .full []]) (.leaf (delL ks i) (delL vs i)):=⟨_,_,_,rfl⟩
 generalize delL ks i=ks' at *
 generalize delL vs i=vs' at *
 have hcx:=hm.ha.cell
 have hcy:=hm.hb.cell
 simp (disch:=first|assumption|omega|(simp only [List.length_append,List.length_cons,List.length_nil];omega)) only [go_sem,hn]
 refine hi1.mono ?_
 rintro w σ3 ⟨rfl,rfl⟩
 have hn3:lessB σ2 x n=some (.obj [.bool true,x,y,.sl .full []]):=(lessB_eq hm.na).trans hn
 simp (disch:=first|assumption|omega|(simp only [List.length_append,List.length_cons,List.length_nil];omega)) only [go_sem,hn3]
 refine hi2.mono ?_
 rintro w σ4 ⟨rfl,rfl⟩
 have hn4:lessB (lessB σ2 x) y n=some (.obj [.bool true,x,y,.sl .full []]):=(lessB_eq hm.nb).trans hn3
 simp (disch:=first|assumption|omega|(simp only [List.length_append,List.length_cons,List.length_nil];omega)) only [go_sem,hn4,hcx,hcy]
 have hset:((lessB (lessB σ2 x) y).set n (some (.obj [.bool true,.sl .shr (kv .u64 ks'),.sl .shr (kv .u64 vs'),.sl .full []]))) n=some (.obj [.bool true,.sl .shr (kv .u64 ks'),.sl .shr (kv .u64 vs'),.sl .full []]):=ASt.set_same _ _ _
 generalize (lessB (lessB σ2 x) y).set n (some (.obj [.bool true,.sl .shr (kv .u64 ks'),.sl .shr (kv .u64 vs'),.sl .full []]))=σ5 at *
 have htn:t≠n:=fun e=>by rw [e,hm.new] at ht;cases ht
 have ht5:=(ASt.set_ne (σ:=base) (r:=some (.obj [.bool true,.sl .shr (kv .u64 ks'),.sl .shr (kv .u64 vs'),.sl .full []])) htn).trans ht
 refine (trpoor_leaf hset hr).mono ?_
 rintro w σ6 ⟨rfl,rfl⟩
 have hdd:decide (ks'.length<15)=decide (ks.length<16):=by congr 1;rw [hlen];exact propext ⟨fun _=>by omega,fun _=>by omega⟩
 rw [hdd]
 simp (disch:=first|assumption|omega|(simp only [List.length_append,List.length_cons,List.length_nil];omega)) only [go_sem]
 refine (trstore_ok (nd := .leaf ks' vs') hxn ht5 hq ⟨_,ASt.set_same _ _ _,hr⟩ ⟨by omega,by omega,hku,hvu⟩).mono ?_
 rintro w σ7 ⟨rfl,b',hb',h7⟩
 simp (disch:=first|assumption|omega|(simp only [List.length_append,List.length_cons,List.length_nil];omega)) only [go_sem]
 exact retC_by (.refl _) (.refl _) ⟨rfl,b',hb',h7.drop1 hm.new h.ck⟩
end
end Go.A
namespace Go.A
open Go.Proofs
/-! 112: (*tabular/tree.Tree).mend -/
def c112_45:ACode := .seq (.ops [ oq 65 (.mv (.t 7)),oq 66 (.mv (.t 9)),oq 67 (.mv (.t 1)),oq 68 (.nc (.t 67)),oq 69 (.fa 1 (.t 68)),oq 70 (.ld none (.t 69)),oq 71 (.mv (.t 2)),oq 72 (.ia 1 (.t 70) (.t 71)),oq 73 (.ld none (.t 72)),oe 74 (.call 122 [(.t 65),(.t 66),(.t 73)]),oq 64 (.mv (.t 74)),oq 75 (.ext 0 (.t 64)),oq 76 (.ext 1 (.t 64)),oq 10 (.mv (.t 75)),oq 11 (.mv (.t 76))]) (.seq (.seq (.ops [ oq 77 (.mv (.t 0)),oq 78 (.mv (.t 1)),oq 79 (.nc (.t 78)),oq 80 (.fa 3 (.t 79)),oq 81 (.ld none (.t 80)),oq 82 (.mv (.t 2)),oq 83 (.ia 1 (.t 81) (.t 82)),oq 84 (.ld none (.t 83)),oq 85 (.mv (.t 7)),oe 86 (.call 64 [(.t 77),(.t 84),(.t 85)]),oq 12 (.mv (.t 86))]) (.seq (.ops [ oq 87 (.mv (.t 12)),oq 88 (.bin .neq (.t 87) (.v (.int .i64 0)))]) (.cond (.t 88) (.seq (.ops [ oq 89 (.mv (.t 12)),oq 6 (.mv (.t 89))]) .ret) .skip))) (.seq (.seq (.ops [ oq 90 (.mv (.t 11)),oq 91 (.un .not (.t 90))]) (.cond (.t 91) (.seq (.ops [ oq 92 (.mv (.t 1)),oq 93 (.nc (.t 92)),oq 94 (.fa 1 (.t 93)),oq 95 (.ld none (.t 94)),oq 96 (.mv (.t 2)),oq 97 (.mv (.t 10)),oq 98 (.ia 1 (.t 95) (.t 96)),oz (.store 1 (.t 98) (.t 97))]) (.seq (.ops [ oq 99 (.mv (.t 0)),oq 100 (.mv (.t 1)),oq 101 (.nc (.t 100)),oq 102 (.fa 3 (.t 101)),oq 103 (.ld none (.t 102)),oq 104 (.mv (.t 2)),oq 105 (.bin .add (.t 104) (.v (.int .i64 1))),oq 106 (.ia 1 (.t 103) (.t 105)),oq 107 (.ld none (.t 106)),oq 108 (.mv (.t 9)),oe 109 (.call 64 [(.t 99),(.t 107),(.t 108)]),oq 6 (.mv (.t 109))]) .ret)) .skip)) (.seq (.ops [ oq 110 (.mv (.t 1)),oq 111 (.nc (.t 110)),oq 112 (.fa 3 (.t 111)),oq 113 (.ld none (.t 112)),oq 114 (.mv (.t 2)),oq 115 (.bin .add (.t 114) (.v (.int .i64 1))),oq 116 (.ia 1 (.t 113) (.t 115)),oq 117 (.ld none (.t 116)),oq 13 (.mv (.t 117))]) (.seq (.ops [ oq 118 (.mv (.t 1)),oq 119 (.mv (.t 1)),oq 120 (.mv (.t 1)),oq 121 (.nc (.t 120)),oq 122 (.fa 1 (.t 121)),oq 123 (.ld none (.t 122)),oq 124 (.mv (.t 2)),oq 125 (.mv (.t 2)),oq 126 (.bin .add (.t 125) (.v (.int .i64 1))),oq 128 (.mv (.t 1)),oq 129 (.nc (.t 128)),oq 130 (.fa 3 (.t 129)),oq 131 (.ld none (.t 130)),oq 132 (.mv (.t 2)),oq 133 (.bin .add (.t 132) (.v (.int .i64 1))),oq 134 (.mv (.t 2)),oq 135 (.bin .add (.t 134) (.v (.int .i64 2))),⟨some 127,none,.e (.call 73 [(.t 123),(.t 124),(.t 126)]),[⟨none,.ld none (.t 130),131⟩]⟩,oe 136 (.call 115 [(.t 131),(.t 133),(.t 135)]),oq 137 (.nc (.t 118)),oq 138 (.fa 1 (.t 137)),oz (.store 1 (.t 138) (.t 127)),oq 139 (.nc (.t 119)),oq 140 (.fa 3 (.t 139)),oz (.store 1 (.t 140) (.t 136))]) (.seq (.ops [ oq 141 (.mv (.t 0)),oq 142 (.nc (.t 141)),oq 143 (.fa 0 (.t 142)),oq 144 (.ld none (.t 143)),oq 145 (.mv (.t 13)),oe 146 (.call 114 [(.t 144),(.t 145)]),oq 6 (.mv (.t 146))]) .ret)))))
def c112_50:ACode := .seq (.ops [ oq 25 (.mv (.t 0)),oq 26 (.mv (.t 1)),oq 27 (.nc (.t 26)),oq 28 (.fa 3 (.t 27)),oq 29 (.ld none (.t 28)),oq 30 (.mv (.t 2)),oq 31 (.ia 1 (.t 29) (.t 30)),oq 32 (.ld none (.t 31)),oe 33 (.call 57 [(.t 25),(.t 32)]),oq 24 (.mv (.t 33)),oq 34 (.ext 0 (.t 24)),oq 35 (.ext 1 (.t 24)),oq 7 (.mv (.t 34)),oq 8 (.mv (.t 35))]) (.seq (.seq (.ops [ oq 36 (.mv (.t 8)),oq 37 (.bin .neq (.t 36) (.v (.int .i64 0)))]) (.cond (.t 37) (.seq (.ops [ oq 38 (.mv (.t 8)),oq 6 (.mv (.t 38))]) .ret) .skip)) (.seq (.ops [ oq 40 (.mv (.t 0)),oq 41 (.mv (.t 1)),oq 42 (.nc (.t 41)),oq 43 (.fa 3 (.t 42)),oq 44 (.ld none (.t 43)),oq 45 (.mv (.t 2)),oq 46 (.bin .add (.t 45) (.v (.int .i64 1))),oq 47 (.ia 1 (.t 44) (.t 46)),oq 48 (.ld none (.t 47)),oe 49 (.call 57 [(.t 40),(.t 48)]),oq 39 (.mv (.t 49)),oq 50 (.ext 0 (.t 39)),oq 51 (.ext 1 (.t 39)),oq 9 (.mv (.t 50)),oq 8 (.mv (.t 51))]) (.seq (.seq (.ops [ oq 52 (.mv (.t 8)),oq 53 (.bin .neq (.t 52) (.v (.int .i64 0)))]) (.cond (.t 53) (.seq (.ops [ oq 54 (.mv (.t 8)),oq 6 (.mv (.t 54))]) .ret) .skip)) (.seq (.seq (.ops [ oq 55 (.mv (.t 7)),oq 56 (.nc (.t 55)),oq 57 (.fa 0 (.t 56)),oq 58 (.ld none (.t 57)),oq 59 (.mv (.t 9)),oq 60 (.nc (.t 59)),oq 61 (.fa 0 (.t 60)),oq 62 (.ld none (.t 61)),oq 63 (.eq .b true (.t 58) (.t 62))]) (.cond (.t 63) (.seq (.ops [ oq 6 (.mv (.v (.int .i64 3)))]) .ret) .skip)) c112_45))))
def c112_52:ACode := .seq (.ops [ oq 6 (.mv (.v (.int .i64 0)))]) (.seq (.seq (.ops [ oq 14 (.mv (.t 2)),oq 15 (.mv (.t 1)),oq 16 (.nc (.t 15)),oq 17 (.fa 3 (.t 16)),oq 18 (.ld none (.t 17)),oq 19 (.len (.t 18)),oq 20 (.bin .sub (.t 19) (.v (.int .i64 1))),oq 21 (.bin .eql (.t 14) (.t 20))]) (.cond (.t 21) (.ops [ oq 22 (.mv (.t 2)),oq 23 (.bin .sub (.t 22) (.v (.int .i64 1))),oq 2 (.mv (.t 23))]) .skip)) c112_50)
@[go_sem] def c112_45_wp:=wp_of c112_45.eq_1
@[go_sem] def c112_50_wp:=wp_of c112_50.eq_1
@[go_sem] def c112_52_wp:=wp_of c112_52.eq_1
def c112:AFn:=⟨147,[.t 6],c112_52⟩
theorem c112_ok:compF Tryz.prog Tryz.f112=some c112:=by kernel_rfl
theorem a112 {args:List AV} {σ:ASt} {R:AV->ASt->Prop} (hl:args.length<=147) (h:c112_52.wp Tryz.prog (RetQ [.t 6] R) (init args) σ):ACalls Tryz.prog 112 args σ R:=acalls_of Tryz.func112 c112_ok hl h
end Go.A
namespace Go.A
open Go.Proofs
section
variable {base base1 σ σ':ASt} {p k page t root n:Nat} {m:Int} {pg:Pgs} {b:List UInt8} {nd:TN} {r:Role} {ks vs ds ks1 vs1 ks2 vs2:List Nat}
theorem OwnR.side {v:AV} {kk:IntKind} {l:List Nat} (h:OwnR base base1 kk v l) {z:Nat} {r:Option Role} (hz:base1 z=none):OwnR (base.set z r) (base1.set z r) kk v l:=by
 rcases h with h|⟨X,c,R,rfl,q1,q2,q3⟩
 ·exact .inl h
 ·have hne:X≠z:=fun e=>by rw [e,hz] at q1;cases q1
  exact .inr ⟨X,c,R,rfl,by rw [ASt.set_ne hne];exact q1,by rw [ASt.set_ne hne];exact q2,q3⟩
theorem LeafM.side {x y:AV} (h:LeafM base base1 n x y ks vs) {z:Nat} {r:Option Role} (hz:base1 z=none):LeafM (base.set z r) (base1.set z r) n x y ks vs:=by
 have hne:n≠z:=fun e=>by have:=h.hn;rw [e,hz] at this;cases this
 refine ⟨fun w q hw=>?_,by rw [ASt.set_ne hne];exact h.new,by rw [ASt.set_ne hne];exact h.hn,h.ha.side hz,h.hb.side hz,h.na,h.nb,h.ab⟩
 by_cases e:w=z
 ·subst e;rw [ASt.set_same] at hw ⊢;exact hw
 ·rw [ASt.set_ne e] at hw ⊢;exact h.kept w q hw
set_option maxHeartbeats 2000000 in
theorem trmend_one {x y:AV} (hm:InnerM base base1 n x y ks ds) (hO:Only base base1 (nodeB n x y)) (hp:PoolAt base1 σ p m k pg) (hck:CkT base) (ht:base t=some (.obj [.ptr p 0,.int .i64 root])) {I j c1 c2:Nat} {b1 b2:List UInt8} (hI:I=j/\j+2<=ds.length\/I=j+1/\j+2=ds.length)
  (hn:ds.length=ks.length+1) (hd40:ds.length<=40) (hc1:ds[j]? = some c1) (hc2:ds[j+1]? = some c2) (h12:c1≠c2) (hq1:pg c1=some b1) (hq2:pg c2=some b2) (hl1:TLeaf b1 ks1 vs1) (hl2:TLeaf b2 ks2 vs2) (h2:ks2 ≠ []) (hs:ks1.length+ks2.length<=30) :
  ACalls Tryz.prog 112 [.ptr t 0,.ptr n 0,.int .i64 I] σ fun w σ'=>w = .int .i64 0/\∃ r b',NodeR r (.inner (delL ks j) (delL ds (j+1)))/\TLeaf b' (ks1++ks2) (vs1++vs2)/\PoolAt (base.set n (some r)) σ' p m k (pset (pset pg c1 (some b')) c2 none):=by
 have hsn:=hp.at hm.hn
 have hcx:=hm.ha.cell
 have hcy:=hm.hd.cell
 have hly:=hm.hd.len
 obtain ⟨K,hK⟩:∃ K:AV->ASt->Prop,K=fun w σ'=>w = .int .i64 0/\∃ r b',NodeR r (.inner (delL ks j) (delL ds (j+1)))/\TLeaf b' (ks1++ks2) (vs1++vs2)/\PoolAt (base.set n (some r)) σ' p m k (pset (pset pg c1 (some b')) c2 none):=⟨_,rfl⟩
 show ACalls _ _ _ _ (fun w σ'=>_)
 rw [<-hK]
 have hgo:∀ a:AFr,(a 0 = .ptr t 0/\a 1 = .ptr n 0/\a 2 = .int .i64 j)->ACode.wp Tryz.prog c112_50 (RetQ [RV.t 6] K) a σ:=by
  intro a hf
  have ht1:=hm.kept _ _ ht
  have hts:=hp.at ht1
  obtain ⟨Y,cc,R,rfl,hYb,_⟩:=hm.hd.resolve_left fun q=>by rw [q.2] at hn;simp at hn
  have hY:=hp.at hYb
  have hg1:=kv_get' (k := .i64) (R:=R) hc1
  have hg2:=kv_get' (k := .i64) (R:=R) hc2
  have hj1:(j:Int)<(ds.length:Int):=by have:=(List.getElem?_eq_some_iff.1 hc2).1;omega
  have hj2:(j:Int)+1<(ds.length:Int):=by have:=(List.getElem?_eq_some_iff.1 hc2).1;omega
  have e1:((j:Int)+1).toNat=j+1:=by omega
  obtain ⟨kj,hkj⟩:∃ kj,ks[j]? = some kj:=⟨_,List.getElem?_eq_getElem (by omega)⟩
  obtain ⟨X,cx,Rx,rfl,hXb,_⟩:=hm.ha.resolve_left fun q=>by rw [q.2] at hkj;simp at hkj
  have hgk:=kv_get' (k := .u64) (R:=Rx) hkj
  have hjk:(j:Int)<(ks.length:Int):=by omega
  simp (disch:=first|assumption|omega|(simp only [List.length_append,List.length_cons,List.length_nil];omega)) only [go_sem,hf,hsn,hY,hg1,hj1,Int.toNat_natCast,Nat.zero_add]
  refine (trload_leafM hp ht1 hq1 hl1).mono ?_
  rintro w σ1 ⟨na,xa,ya,base2,rfl,ha,hOa,hp1⟩
  have hsn1:=hp1.at (ha.kept _ _ hm.hn)
  have hY1:=hp1.at (ha.kept _ _ hYb)
  simp (disch:=first|assumption|omega|(simp only [List.length_append,List.length_cons,List.length_nil];omega)) only [go_sem,hf,hsn1,hY1,hg2,hj2,e1,Nat.zero_add]
  refine (trload_ok (nd := .leaf ks2 vs2) hp1 (ha.kept _ _ ht1) hq2 hl2).mono ?_
  rintro w σ2 ⟨nb,rb,rfl,hnb,hrb,hp2⟩
  have ha2:=ha.side (r:=some rb) hnb
  obtain ⟨kb1,kb2,kb3,rfl⟩:=id hrb
  have hsa2:=hp2.at ha2.hn
  have hsb2:=hp2.at (ASt.set_same base2 nb _)
  have hne:∀ {z r},base1 z=some r->z≠nb:=fun {z r} hz e=>by
   have:=ha.kept _ _ hz
   rw [e,hnb] at this;cases this
  have hne2:∀ {z r},base1 z=some r->z≠na:=fun {z r} hz e=>by rw [e,ha.new] at hz;cases hz
  have hsn2:=hp2.at ((ASt.set_ne (hne hm.hn)).trans (ha.kept _ _ hm.hn))
  have hX2:=hp2.at ((ASt.set_ne (hne hXb)).trans (ha.kept _ _ hXb))
  have hcxa:=ha.ha.cell
  have hcya:=ha.hb.cell
  have hck1:CkT base1:=hp.ck
  simp (disch:=first|assumption|omega|(simp only [List.length_append,List.length_cons,List.length_nil];omega)) only [go_sem,hf,hsa2,hsb2,hsn2,hX2,hgk,hjk,hcxa,hcya,Int.toNat_natCast,Nat.zero_add]
  have hckb:CkT (base1.set nb (some (.obj [.bool true,.sl kb1 (kv .u64 ks2),.sl kb2 (kv .u64 vs2),.sl kb3 []]))):=hck1.away (ck_ne hp1.ck hnb)
  have hnb1:base1 nb=none:=ha.kept.gone hnb
  refine (treven_one ha2 hp2 hckb (ASt.set_same _ _ _) hrb hl1.n hl2.n h2 hs).mono ?_
  rintro w σ3 ⟨rfl,ra,hra,hp3⟩
  have hanb:na≠nb:=fun e=>by have:=ha.hn;rw [e,hnb] at this;cases this
  have hBne:∀ {z r},base1 z=some r->((base1.set nb (some (.obj [.bool true,.sl kb1 (kv .u64 ks2),.sl kb2 (kv .u64 vs2),.sl kb3 []]))).set na (some ra)) z=some r:=fun {z r} hz=>by
   rw [ASt.set_ne (hne2 hz),ASt.set_ne (hne hz)];exact hz
  have hsn3:=hp3.at (hBne hm.hn)
  have hY3:=hp3.at (hBne hYb)
  simp (disch:=first|assumption|omega|(simp only [List.length_append,List.length_cons,List.length_nil];omega)) only [go_sem,hf,hsn3,hY3,hg1,hj1,Int.toNat_natCast,Nat.zero_add]
  have hkul:u64L (ks1++ks2):=fun q hq=>(List.mem_append.1 hq).elim (hl1.ku q) (hl2.ku q)
  have hvul:u64L (vs1++vs2):=fun q hq=>(List.mem_append.1 hq).elim (hl1.vu q) (hl2.vu q)
  refine (trstore_ok (nd := .leaf (ks1++ks2) (vs1++vs2)) hp3 (hBne ht1) hq1 ⟨ra,ASt.set_same _ _ _,hra⟩ ⟨by rw [List.length_append,List.length_append,hl1.n,hl2.n],by rw [List.length_append];omega,hkul,hvul⟩).mono ?_
  rintro w σ4 ⟨rfl,b',hb',hp4⟩
  have hp5:=(hp4.drop1 (by rw [ASt.set_ne hanb];exact ha.new) hckb).drop1 hnb1 hck1
  have hsn4:=hp5.at hm.hn
  have hY4:=hp5.at hYb
  have own:∀ {k:IntKind} {v:AV} {l:List Nat},OwnR base base1 k v l->OwnR base σ4 k v l:=fun {k v l} ho=>ho.mono fun X r hX hr=>hp5.at hr
  have hi1:=(own hm.ha).del64 (i:=j) (by omega) (by omega)
  have hb2:OwnR base (lessB σ4 (.msl X 0 ks.length cx)) .i64 (.msl Y 0 ds.length cc) ds:=(own hm.hd).mono fun Z r hZ hr=>by rw [lessB_eq (fun e=>hm.ad Z e hZ)];exact hr
  have hi2:=hb2.delI (i:=j+1) (by omega) (by omega)
  have e2:(((j+1:Nat):Int))=(j:Int)+1:=by omega
  have e3:(j:Int)+1+1=(j:Int)+2:=by omega
  rw [e2,e3] at hi2
  have hxn:=node_hard hO hm.new hm.hn hm.ha hm.hd hm.na hm.nd hm.ad hck hp5 (.obj [.bool false,.sl .shr (kv .u64 (delL ks j)),.sl .full [],.sl .shr (kv .i64 (delL ds (j+1)))])
  have hr:NodeR (.obj [.bool false,.sl .shr (kv .u64 (delL ks j)),.sl .full [],.sl .shr (kv .i64 (delL ds (j+1)))]) (.inner (delL ks j) (delL ds (j+1))):=⟨_,_,_,rfl⟩
  generalize delL ks j=ks' at *
  generalize delL ds (j+1)=ds' at *
  simp (disch:=first|assumption|omega|(simp only [List.length_append,List.length_cons,List.length_nil];omega)) only [go_sem,hf,hsn4,hY4,hg2,hj2,e1,Nat.zero_add]
  refine hi1.mono ?_
  rintro w σ5 ⟨rfl,rfl⟩
  have hn3:lessB σ4 (.msl X 0 ks.length cx) n=some (.obj [.bool false,.msl X 0 ks.length cx,.sl .full [],.msl Y 0 ds.length cc]):=(lessB_eq hm.na).trans hsn4
  simp (disch:=first|assumption|omega|(simp only [List.length_append,List.length_cons,List.length_nil];omega)) only [go_sem,hf,hn3]
  refine hi2.mono ?_
  rintro w σ6 ⟨rfl,rfl⟩
  have hn4:lessB (lessB σ4 (.msl X 0 ks.length cx)) (.msl Y 0 ds.length cc) n=some (.obj [.bool false,.msl X 0 ks.length cx,.sl .full [],.msl Y 0 ds.length cc]):=(lessB_eq hm.nd).trans hn3
  have htn:t≠n:=fun e=>by rw [e,hm.new] at ht;cases ht
  have ht6:=hxn.at ((ASt.set_ne (σ:=base) (r:=some (.obj [.bool false,.sl .shr (kv .u64 ks'),.sl .full [],.sl .shr (kv .i64 ds')])) htn).trans ht)
  rw [ASt.set_ne htn] at ht6
  simp (disch:=first|assumption|omega|(simp only [List.length_append,List.length_cons,List.length_nil];omega)) only [go_sem,hf,hn4,ht6,htn]
  refine (plgive_ok hxn (by rw [pset_ne (Ne.symm h12)];exact hq2)).mono ?_
  rintro w σ7 ⟨rfl,hp7⟩
  simp (disch:=first|assumption|omega|(simp only [List.length_append,List.length_cons,List.length_nil];omega)) only [go_sem,hf]
  rw [hK]
  exact retC_by (.refl _) (.refl _) ⟨rfl,_,b',hr,hb',hp7⟩
 obtain ⟨F,hF⟩:∃ F,F=ACode.wp Tryz.prog c112_50:=⟨_,rfl⟩
 rw [<-hF] at hgo
 refine a112 (by simp) ?_
 rcases hI with ⟨rfl,hI⟩|⟨rfl,hI⟩
 ·have e1:¬ (I:Int)=(ds.length:Int)-1:=by omega
  simp (disch:=first|assumption|omega|(simp only [List.length_append,List.length_cons,List.length_nil];omega)) only [go_sem,hsn,hcx,hcy,hly,e1,←hF]
  refine hgo _ ?_
  simp (disch:=first|assumption|omega|(simp only [List.length_append,List.length_cons,List.length_nil];omega)) only [go_sem]
 ·have e1:((j+1:Nat):Int)=(ds.length:Int)-1:=by omega
  have e2:(ds.length:Int)-1-1=(j:Int):=by omega
  rw [e1]
  simp (disch:=first|assumption|omega|(simp only [List.length_append,List.length_cons,List.length_nil];omega)) only [go_sem,hsn,hcx,hcy,hly,←hF,e2]
  refine hgo _ ?_
  simp (disch:=first|assumption|omega|(simp only [List.length_append,List.length_cons,List.length_nil];omega)) only [go_sem]
theorem InnerM.put {y:AV} {X c i v:Nat} {R:List AV} (h:InnerM base base1 n (.msl X 0 ks.length c) y ks ds) (hX:base1 X=some (.obj (kv .u64 ks++R))) (hc:ks.length<=c/\c<=ks.length+R.length/\leaves R=true) :
  InnerM base (base1.set X (some (.obj (kv .u64 (ks.set i v)++R)))) n (.msl X 0 ks.length c) y (ks.set i v) ds:=by
 have hXn:=(h.ha.in rfl).1
 have hlen:(ks.set i v).length=ks.length:=List.length_set
 refine ⟨h.kept.set hXn,h.new,?_,.inr ⟨X,c,R,by rw [hlen],ASt.set_same _ _ _,hXn,by rw [hlen];exact hc.1,by rw [hlen];exact hc.2.1,hc.2.2⟩,h.hd.set (fun e=>h.ad X rfl e),h.na,h.nd,h.ad⟩
 rw [ASt.set_ne (fun e=>h.na (by rw [e];rfl))]
 exact h.hn
set_option maxHeartbeats 2000000 in
theorem trmend_two {x y:AV} (hm:InnerM base base1 n x y ks ds) (hO:Only base base1 (nodeB n x y)) (hp:PoolAt base1 σ p m k pg) (hck:CkT base) (ht:base t=some (.obj [.ptr p 0,.int .i64 root])) {I j c1 c2:Nat} {b1 b2:List UInt8} (hI:I=j/\j+2<=ds.length\/I=j+1/\j+2=ds.length)
  (hn:ds.length=ks.length+1) (hd40:ds.length<=40) (hc1:ds[j]? = some c1) (hc2:ds[j+1]? = some c2) (h12:c1≠c2) (hq1:pg c1=some b1) (hq2:pg c2=some b2) (hl1:TLeaf b1 ks1 vs1) (hl2:TLeaf b2 ks2 vs2) (h1:ks1 ≠ []) (h2:ks2 ≠ []) (hs:30<ks1.length+ks2.length) {h:Nat} (hh:h=(ks1.length+ks2.length) / 2) :
  ACalls Tryz.prog 112 [.ptr t 0,.ptr n 0,.int .i64 I] σ fun w σ'=>w = .int .i64 0/\∃ (key:Nat) (r:Role) (b1 b2:List UInt8),(ks1++ks2)[h]? = some key/\NodeR r (.inner (ks.set j key) ds)/\TLeaf b1 ((ks1++ks2).take h) ((vs1++vs2).take h)/\TLeaf b2 ((ks1++ks2).drop h) ((vs1++vs2).drop h) ∧
   PoolAt (base.set n (some r)) σ' p m k (pset (pset pg c1 (some b1)) c2 (some b2)):=by
 have hsn:=hp.at hm.hn
 have hcx:=hm.ha.cell
 have hcy:=hm.hd.cell
 have hly:=hm.hd.len
 obtain ⟨K,hK⟩:∃ K:AV->ASt->Prop,K=fun w σ'=>w = .int .i64 0/\∃ (key:Nat) (base3:ASt) (x':AV) (b1 b2:List UInt8),(ks1++ks2)[h]? = some key/\InnerM base base3 n x' y (ks.set j key) ds/\TLeaf b1 ((ks1++ks2).take h) ((vs1++vs2).take h)/\TLeaf b2 ((ks1++ks2).drop h) ((vs1++vs2).drop h) ∧
   PoolAt base3 σ' p m k (pset (pset pg c1 (some b1)) c2 (some b2)):=⟨_,rfl⟩
 suffices hS:ACalls Tryz.prog 112 [.ptr t 0,.ptr n 0,.int .i64 I] σ K by
  refine hS.post ?_
  intro w σ' hw
  rw [hK] at hw
  obtain ⟨rfl,key,base3,x',b1,b2,g1,g2,g3,g4,g5⟩:=hw
  obtain ⟨σ2,r,y1,y2,y3,y4⟩:=g2.soft hck g5
  exact ⟨_,σ2,y1.wkv (.refl _),rfl,key,r,b1,b2,g1,y2,g3,g4,y4⟩
 have hgo:∀ a:AFr,(a 0 = .ptr t 0/\a 1 = .ptr n 0/\a 2 = .int .i64 j)->ACode.wp Tryz.prog c112_50 (RetQ [RV.t 6] K) a σ:=by
  intro a hf
  have ht1:=hm.kept _ _ ht
  have hts:=hp.at ht1
  obtain ⟨Y,cc,R,rfl,hYb,_⟩:=hm.hd.resolve_left fun q=>by rw [q.2] at hn;simp at hn
  have hY:=hp.at hYb
  have hg1:=kv_get' (k := .i64) (R:=R) hc1
  have hg2:=kv_get' (k := .i64) (R:=R) hc2
  have hj1:(j:Int)<(ds.length:Int):=by have:=(List.getElem?_eq_some_iff.1 hc2).1;omega
  have hj2:(j:Int)+1<(ds.length:Int):=by have:=(List.getElem?_eq_some_iff.1 hc2).1;omega
  have e1:((j:Int)+1).toNat=j+1:=by omega
  obtain ⟨kj,hkj⟩:∃ kj,ks[j]? = some kj:=⟨_,List.getElem?_eq_getElem (by omega)⟩
  obtain ⟨X,cx,Rx,rfl,hXb,hXn,hXr⟩:=hm.ha.resolve_left fun q=>by rw [q.2] at hkj;simp at hkj
  have hgk:=kv_get' (k := .u64) (R:=Rx) hkj
  have hjk:(j:Int)<(ks.length:Int):=by omega
  simp (disch:=first|assumption|omega|(simp only [List.length_append,List.length_cons,List.length_nil];omega)) only [go_sem,hf,hsn,hY,hg1,hj1,Int.toNat_natCast,Nat.zero_add]
  refine (trload_leafM hp ht1 hq1 hl1).mono ?_
  rintro w σ1 ⟨na,xa,ya,base2,rfl,ha,hOa,hp1⟩
  have hsn1:=hp1.at (ha.kept _ _ hm.hn)
  have hY1:=hp1.at (ha.kept _ _ hYb)
  simp (disch:=first|assumption|omega|(simp only [List.length_append,List.length_cons,List.length_nil];omega)) only [go_sem,hf,hsn1,hY1,hg2,hj2,e1,Nat.zero_add]
  refine (trload_ok (nd := .leaf ks2 vs2) hp1 (ha.kept _ _ ht1) hq2 hl2).mono ?_
  rintro w σ2 ⟨nb,rb,rfl,hnb,hrb,hp2⟩
  have ha2:=ha.side (r:=some rb) hnb
  obtain ⟨kb1,kb2,kb3,rfl⟩:=id hrb
  have hsa2:=hp2.at ha2.hn
  have hsb2:=hp2.at (ASt.set_same base2 nb _)
  have hne:∀ {z r},base1 z=some r->z≠nb:=fun {z r} hz e=>by
   have:=ha.kept _ _ hz
   rw [e,hnb] at this;cases this
  have hne2:∀ {z r},base1 z=some r->z≠na:=fun {z r} hz e=>by rw [e,ha.new] at hz;cases hz
  have hsn2:=hp2.at ((ASt.set_ne (hne hm.hn)).trans (ha.kept _ _ hm.hn))
  have hX2:=hp2.at ((ASt.set_ne (hne hXb)).trans (ha.kept _ _ hXb))
  have hcxa:=ha.ha.cell
  have hcya:=ha.hb.cell
  have hck1:CkT base1:=hp.ck
  simp (disch:=first|assumption|omega|(simp only [List.length_append,List.length_cons,List.length_nil];omega)) only [go_sem,hf,hsa2,hsb2,hsn2,hX2,hgk,hjk,hcxa,hcya,Int.toNat_natCast,Nat.zero_add]
  have hanb:na≠nb:=fun e=>by have:=ha.hn;rw [e,hnb] at this;cases this
  have hnb1:base1 nb=none:=ha.kept.gone hnb
  obtain ⟨σ3,ra,g1,hra,_,hp3⟩:=ha2.soft (hck1.away (ck_ne hp1.ck hnb)) hp2
  rw [set_swap (Ne.symm hanb)] at hp3
  refine ((treven_two hp3 hck1 hanb ha.new hnb1 hra hrb hl1.n hl2.n h1 h2 hs (by have:=hl1.most;have:=hl2.most;omega) hh).wk g1.wk).mono ?_
  rintro w σ4 ⟨key,ra,rb,rfl,hkey,hra,hrb,hp4⟩
  have hBne:∀ {z r},base1 z=some r->((base1.set na (some ra)).set nb (some rb)) z=some r:=fun {z r} hz=>by
   rw [ASt.set_ne (hne hz),ASt.set_ne (hne2 hz)];exact hz
  have hsn4:=hp4.at (hBne hm.hn)
  have hY4:=hp4.at (hBne hYb)
  have hkul:u64L (ks1++ks2):=fun q hq=>(List.mem_append.1 hq).elim (hl1.ku q) (hl2.ku q)
  have hvul:u64L (vs1++vs2):=fun q hq=>(List.mem_append.1 hq).elim (hl1.vu q) (hl2.vu q)
  have m1:=hl1.most
  have m2:=hl2.most
  have n1:=hl1.n
  have n2:=hl2.n
  have hlk:(ks1++ks2).length=ks1.length+ks2.length:=List.length_append
  have hlv:(vs1++vs2).length=ks1.length+ks2.length:=by rw [List.length_append];omega
  simp (disch:=first|assumption|omega|(simp only [List.length_append,List.length_cons,List.length_nil];omega)) only [go_sem,hf,hsn4,hY4,hg1,hj1,Int.toNat_natCast,Nat.zero_add]
  refine (trstore_ok (nd := .leaf ((ks1++ks2).take h) ((vs1++vs2).take h)) hp4 (hBne ht1) hq1 ⟨ra,by rw [ASt.set_ne hanb,ASt.set_same],hra⟩ ⟨by rw [List.length_take,List.length_take];omega,by rw [List.length_take];omega,u64L_take hkul,u64L_take hvul⟩).mono ?_
  rintro w σ5 ⟨rfl,b1',hb1',hp5⟩
  have hsn5:=hp5.at (hBne hm.hn)
  have hX5:=hp5.at (hBne hXb)
  have hst:j+1<=(kv .u64 ks).length+Rx.length:=by rw [kv_len];omega
  have hnX:n≠X:=fun e=>hm.na (by rw [e];rfl)
  have hYX:Y≠X:=fun e=>hm.ad X rfl (by rw [e];rfl)
  have hY5:=hp5.at (hBne hYb)
  simp (disch:=first|assumption|omega|(simp only [List.length_append,List.length_cons,List.length_nil];omega)) only [go_sem,hf,hsn5,hX5,hY5,hnX,hYX,hg2,hj2,e1,hjk,hst,Int.toNat_natCast,Nat.zero_add]
  rw [kv_put (by omega)]
  have hm3:=hm.put (i:=j) (v:=key) hXb hXr
  have hp6:=hp5.set (x:=X) (some (.obj (kv .u64 (ks.set j key)++Rx))) (.inl (by rw [hBne hXb];simp)) (ck_ne hck hXn)
  rw [set_swap (Ne.symm (hne hXb)),set_swap (Ne.symm (hne2 hXb))] at hp6
  have hck3:=hck1.away (r:=some (.obj (kv .u64 (ks.set j key)++Rx))) (ck_ne hck hXn)
  have hbna:(base1.set X (some (.obj (kv .u64 (ks.set j key)++Rx)))) na=none:=by rw [ASt.set_ne (Ne.symm (hne2 hXb))];exact ha.new
  have hbnb:(base1.set X (some (.obj (kv .u64 (ks.set j key)++Rx)))) nb=none:=by rw [ASt.set_ne (Ne.symm (hne hXb))];exact hnb1
  have ht3:=hm3.kept _ _ ht
  generalize base1.set X (some (.obj (kv .u64 (ks.set j key)++Rx)))=base3 at *
  have ht6:((base3.set na (some ra)).set nb (some rb)) t=some (.obj [.ptr p 0,.int .i64 root]):=by
   rw [ASt.set_ne (fun e=>by rw [e,hbnb] at ht3;cases ht3),ASt.set_ne (fun e=>by rw [e,hbna] at ht3;cases ht3)];exact ht3
  refine (trstore_ok (nd := .leaf ((ks1++ks2).drop h) ((vs1++vs2).drop h)) hp6 ht6 (by rw [pset_ne (Ne.symm h12)];exact hq2) ⟨rb,ASt.set_same _ _ _,hrb⟩ ⟨by rw [List.length_drop,List.length_drop];omega,by rw [List.length_drop];omega,u64L_drop hkul,u64L_drop hvul⟩).mono ?_
  rintro w σ7 ⟨rfl,b2',hb2',hp7⟩
  have hp8:=(hp7.drop1 (by rw [ASt.set_ne (Ne.symm hanb)];exact hbnb) (hck3.away (ck_ne hck3 hbna))).drop1 hbna hck3
  simp (disch:=first|assumption|omega|(simp only [List.length_append,List.length_cons,List.length_nil];omega)) only [go_sem,hf]
  rw [hK]
  exact retC_by (.refl _) (.refl _) ⟨rfl,key,base3,_,b1',b2',hkey,hm3,hb1',hb2',hp8⟩
 obtain ⟨F,hF⟩:∃ F,F=ACode.wp Tryz.prog c112_50:=⟨_,rfl⟩
 rw [<-hF] at hgo
 refine a112 (by simp) ?_
 rcases hI with ⟨rfl,hI⟩|⟨rfl,hI⟩
 ·have e1:¬ (I:Int)=(ds.length:Int)-1:=by omega
  simp (disch:=first|assumption|omega|(simp only [List.length_append,List.length_cons,List.length_nil];omega)) only [go_sem,hsn,hcx,hcy,hly,e1,←hF]
  refine hgo _ ?_
  simp (disch:=first|assumption|omega|(simp only [List.length_append,List.length_cons,List.length_nil];omega)) only [go_sem]
 ·have e1:((j+1:Nat):Int)=(ds.length:Int)-1:=by omega
  have e2:(ds.length:Int)-1-1=(j:Int):=by omega
  rw [e1]
  simp (disch:=first|assumption|omega|(simp only [List.length_append,List.length_cons,List.length_nil];omega)) only [go_sem,hsn,hcx,hcy,hly,←hF,e2]
  refine hgo _ ?_
  simp (disch:=first|assumption|omega|(simp only [List.length_append,List.length_cons,List.length_nil];omega)) only [go_sem]
end
end Go.A
namespace Go.A
open Go.Proofs
/-! 74: (*tabular/tree.Tree).Drop -/
def c74_5:ACode := .seq (.ops [ oq 4 (.mv (.v (.bool false))),oq 5 (.mv (.v (.int .i64 0)))]) (.seq (.ops [ oq 10 (.mv (.t 0)),oq 11 (.mv (.t 0)),oq 12 (.nc (.t 11)),oq 13 (.fa 1 (.t 12)),oq 14 (.ld none (.t 13)),oq 15 (.mv (.t 1)),oe 16 (.call 97 [(.t 10),(.t 14),(.t 15),(.v (.int .i64 0))]),oq 9 (.mv (.t 16)),oq 17 (.ext 0 (.t 9)),oq 18 (.ext 1 (.t 9)),oq 19 (.ext 2 (.t 9)),oq 6 (.mv (.t 17)),oq 7 (.mv (.t 18)),oq 8 (.mv (.t 19))]) (.seq (.ops [ oq 20 (.mv (.t 6)),oq 21 (.mv (.t 20)),⟨some 22,some (21,true),.q (.mv (.t 8)),[]⟩,⟨some 23,some (21,true),.q (.bin .eql (.t 22) (.v (.int .i64 0))),[]⟩,oq 24 (.pick (.t 21) (.t 23) (.v (.bool false))),oq 25 (.mv (.t 8)),oq 4 (.mv (.t 24)),oq 5 (.mv (.t 25))]) .ret))
@[go_sem] def c74_5_wp:=wp_of c74_5.eq_1
def c74:AFn:=⟨26,[.t 4,.t 5],c74_5⟩
theorem c74_ok:compF Tryz.prog Tryz.f74=some c74:=by kernel_rfl
theorem a74 {args:List AV} {σ:ASt} {R:AV->ASt->Prop} (hl:args.length<=26) (h:c74_5.wp Tryz.prog (RetQ [.t 4,.t 5] R) (init args) σ):ACalls Tryz.prog 74 args σ R:=acalls_of Tryz.func74 c74_ok hl h
end Go.A
namespace Go.A
open Go.Proofs
section
variable {base base1 σ σ':ASt} {p k page t root n:Nat} {m:Int} {pg:Pgs} {b:List UInt8} {nd:TN} {r:Role} {ks vs ds ks1 vs1 ks2 vs2:List Nat}
set_option maxHeartbeats 1000000 in
theorem trdrop_up (h:PoolAt base σ p m k pg) (ht:base t=some (.obj [.ptr p 0,.int .i64 root])) (hq:pg page=some b) (hl:TInner b ks ds) (hs:ks.Pairwise (· < ·)) {key c:Nat} (hc:ds[kidI ks key]? = some c) {Q:Pgs->Prop}
  (call:∀ base' σ',PoolAt base' σ' p m k pg->base' t=some (.obj [.ptr p 0,.int .i64 root]) →
   ACalls Tryz.prog 97 [.ptr t 0,.int .i64 c,.int .u64 key,.int .i64 1] σ' fun r σ2=>r = .tuple [.bool true,.bool false,.int .i64 0]/\∃ pg',Q pg'/\PoolAt base' σ2 p m k pg') :
  ACalls Tryz.prog 97 [.ptr t 0,.int .i64 page,.int .u64 key,.int .i64 0] σ fun r σ2=>r = .tuple [.bool true,.bool false,.int .i64 0]/\∃ pg',Q pg'/\PoolAt base σ2 p m k pg':=by
 have hts:=h.at ht
 have hle:=kidI_le ks key
 refine a97 (by simp) ?_
 simp (disch:=first|assumption|omega|(simp only [List.length_append,List.length_cons,List.length_nil];omega)) only [go_sem,hts]
 refine (trload_innerM h ht hq hl).mono ?_
 rintro w σ1 ⟨n,x,y,base1,rfl,hm,hO,hp⟩
 have hn:=hp.at hm.hn
 have own:∀ {k:IntKind} {v:AV} {l:List Nat},OwnR base base1 k v l->OwnR base σ1 k v l:=fun {k v l} ho=>ho.mono fun X r hX hr=>hp.at hr
 have hcx:=hm.ha.cell
 have hcy:=hm.hd.cell
 have hmost:=hl.most
 have hln:=hl.n
 have hkid:=trkid_p (key:=key) hn rfl (own hm.ha) (by omega) hs
 simp (disch:=first|assumption|omega|(simp only [List.length_append,List.length_cons,List.length_nil];omega)) only [go_sem,hn,hcx,hcy]
 refine hkid.mono ?_
 rintro w σ2 ⟨rfl,rfl⟩
 obtain ⟨Y,cc,R,rfl,hY,hg⟩:=(own hm.hd).get hc
 generalize kidI ks key=i at *
 have hil:(i:Int)<(ds.length:Int):=by omega
 simp (disch:=first|assumption|omega|(simp only [List.length_append,List.length_cons,List.length_nil];omega)) only [go_sem,hn,hcx,hY,hg,hil,Int.toNat_natCast,Nat.zero_add]
 refine (call base1 σ2 hp (hm.kept _ _ ht)).mono ?_
 rintro w σ3 ⟨rfl,pg',hQ,h3⟩
 simp (disch:=first|assumption|omega|(simp only [List.length_append,List.length_cons,List.length_nil];omega)) only [go_sem]
 exact retC_by (.refl _) (.refl _) ⟨rfl,pg',hQ,h3.less hm.kept h.ck⟩
set_option maxHeartbeats 1000000 in
theorem trdrop_mend (h:PoolAt base σ p m k pg) (ht:base t=some (.obj [.ptr p 0,.int .i64 root])) (hq:pg page=some b) (hl:TInner b ks ds) (hs:ks.Pairwise (· < ·)) {key c:Nat} (hc:ds[kidI ks key]? = some c) {Q1:Pgs->Prop} {Q:List Nat->List Nat->Pgs->Prop}
  (call:∀ base' σ',PoolAt base' σ' p m k pg->base' t=some (.obj [.ptr p 0,.int .i64 root]) →
   ACalls Tryz.prog 97 [.ptr t 0,.int .i64 c,.int .u64 key,.int .i64 1] σ' fun r σ2=>r = .tuple [.bool true,.bool true,.int .i64 0]/\∃ pg',Q1 pg'/\PoolAt base' σ2 p m k pg')
  (mend:∀ n x y base1 σ1 pg',InnerM base base1 n x y ks ds->Only base base1 (nodeB n x y)->Q1 pg'->PoolAt base1 σ1 p m k pg' →
   ACalls Tryz.prog 112 [.ptr t 0,.ptr n 0,.int .i64 (kidI ks key)] σ1 fun w σ'=>w = .int .i64 0/\∃ (r:Role) (ks' ds':List Nat) (pg2:Pgs) (b2:List UInt8),NodeR r (.inner ks' ds')/\(TN.inner ks' ds').ok/\Q ks' ds' pg2/\pg2 page=some b2/\PoolAt (base.set n (some r)) σ' p m k pg2) :
  ACalls Tryz.prog 97 [.ptr t 0,.int .i64 page,.int .u64 key,.int .i64 0] σ fun r σ2=>∃ (pr:Bool) (ks' ds':List Nat) (pg2:Pgs) (b':List UInt8),r = .tuple [.bool true,.bool pr,.int .i64 0]/\Q ks' ds' pg2/\TInner b' ks' ds'/\PoolAt base σ2 p m k (pset pg2 page (some b')):=by
 have hts:=h.at ht
 have hle:=kidI_le ks key
 obtain ⟨K,hK⟩:∃ K:AV->ASt->Prop,K=fun r σ2=>∃ (pr:Bool) (ks' ds':List Nat) (pg2:Pgs) (b':List UInt8),r = .tuple [.bool true,.bool pr,.int .i64 0]/\Q ks' ds' pg2/\TInner b' ks' ds'/\PoolAt base σ2 p m k (pset pg2 page (some b')):=⟨_,rfl⟩
 suffices hS:ACalls Tryz.prog 97 [.ptr t 0,.int .i64 page,.int .u64 key,.int .i64 0] σ K by rw [hK] at hS;exact hS
 refine a97 (by simp) ?_
 simp (disch:=first|assumption|omega|(simp only [List.length_append,List.length_cons,List.length_nil];omega)) only [go_sem,hts]
 refine (trload_innerM h ht hq hl).mono ?_
 rintro w σ1 ⟨n,x,y,base1,rfl,hm,hO,hp⟩
 have hn:=hp.at hm.hn
 have own:∀ {k:IntKind} {v:AV} {l:List Nat},OwnR base base1 k v l->OwnR base σ1 k v l:=fun {k v l} ho=>ho.mono fun X r hX hr=>hp.at hr
 have hcx:=hm.ha.cell
 have hcy:=hm.hd.cell
 have hmost:=hl.most
 have hln:=hl.n
 have hkid:=trkid_p (key:=key) hn rfl (own hm.ha) (by omega) hs
 simp (disch:=first|assumption|omega|(simp only [List.length_append,List.length_cons,List.length_nil];omega)) only [go_sem,hn,hcx,hcy]
 refine hkid.mono ?_
 rintro w σ2 ⟨rfl,rfl⟩
 obtain ⟨Y,cc,R,rfl,hY,hg⟩:=(own hm.hd).get hc
 generalize kidI ks key=i at *
 have hil:(i:Int)<(ds.length:Int):=by omega
 simp (disch:=first|assumption|omega|(simp only [List.length_append,List.length_cons,List.length_nil];omega)) only [go_sem,hn,hcx,hY,hg,hil,Int.toNat_natCast,Nat.zero_add]
 refine (call base1 σ2 hp (hm.kept _ _ ht)).mono ?_
 rintro w σ3 ⟨rfl,pg',hQ,h3⟩
 simp (disch:=first|assumption|omega|(simp only [List.length_append,List.length_cons,List.length_nil];omega)) only [go_sem]
 refine (mend _ _ _ _ _ _ hm hO hQ h3).mono ?_
 rintro w σ4 ⟨rfl,r,ks',ds',pg2,b2,hr,hok,hQ2,hb2,h4⟩
 obtain ⟨k1,k2,k3,rfl⟩:=id hr
 have hn4:=h4.at (ASt.set_same base n _)
 have hdl:=kv_len .i64 ds'
 have htn:t≠n:=fun e=>by rw [e,hm.new] at ht;cases ht
 have ht4:=(ASt.set_ne (σ:=base) (r:=some (.obj [.bool false,.sl k1 (kv .u64 ks'),.sl k2 [],.sl k3 (kv .i64 ds')])) htn).trans ht
 have hpoor:=trpoor_inner hn4 hr
 have hst:=trstore_ok (nd := .inner ks' ds') h4 ht4 hb2 ⟨_,ASt.set_same _ _ _,hr⟩ hok
 have h2:¬ (ds'.length:Int)=1:=by have:=hok.2.1;omega
 generalize hDS:kv .i64 ds'=DS at *
 simp (disch:=first|assumption|omega|(simp only [List.length_append,List.length_cons,List.length_nil];omega)) only [go_sem,hn4,hdl,h2]
 refine hpoor.mono ?_
 rintro w σ5 ⟨rfl,rfl⟩
 simp (disch:=first|assumption|omega|(simp only [List.length_append,List.length_cons,List.length_nil];omega)) only [go_sem]
 refine hst.mono ?_
 rintro w σ6 ⟨rfl,b',hb',h6⟩
 simp (disch:=first|assumption|omega|(simp only [List.length_append,List.length_cons,List.length_nil];omega)) only [go_sem]
 rw [hK]
 exact retC_by (.refl _) (.refl _) ⟨_,ks',ds',pg2,b',rfl,hQ2,hb',h6.drop1 hm.new h.ck⟩
theorem trDrop_ok (h:PoolAt base σ p m k pg) (ht:base t=some (.obj [.ptr p 0,.int .i64 root])) {key:Nat} {Q:Pgs->Prop}
  (call:ACalls Tryz.prog 97 [.ptr t 0,.int .i64 root,.int .u64 key,.int .i64 0] σ fun r σ2=>∃ pr,r = .tuple [.bool true,.bool pr,.int .i64 0]/\∃ pg',Q pg'/\PoolAt base σ2 p m k pg') :
  ACalls Tryz.prog 74 [.ptr t 0,.int .u64 key] σ fun r σ2=>r = .tuple [.bool true,.int .i64 0]/\∃ pg',Q pg'/\PoolAt base σ2 p m k pg':=by
 have hts:=h.at ht
 refine a74 (by simp) ?_
 simp (disch:=first|assumption|omega|(simp only [List.length_append,List.length_cons,List.length_nil];omega)) only [go_sem,hts]
 refine call.mono ?_
 rintro w σ1 ⟨pr,rfl,pg',hQ,h1⟩
 simp (disch:=first|assumption|omega|(simp only [List.length_append,List.length_cons,List.length_nil];omega)) only [go_sem]
 exact retC_by (.refl _) (.refl _) ⟨rfl,pg',hQ,h1⟩
end
end Go.A
end
