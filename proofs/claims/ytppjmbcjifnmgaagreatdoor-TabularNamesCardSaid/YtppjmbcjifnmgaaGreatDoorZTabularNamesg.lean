/- Part 7 of what TabularNames leans on: Nj CodeNk Nk CodeNl Nl CodeNm Nm Nn CodeNo No CodeNp Np Nq CodeNr Nr CodeNs. -/
import Derived.Test.YtppjmbcjifnmgaaGreatDoorProg
import Derived.KernelRfl
import Derived.Test.YtppjmbcjifnmgaaGreatDoorZTabularNamesf
set_option linter.defProp false
set_option linter.unusedSimpArgs false
set_option linter.unusedVariables false
set_option maxRecDepth 100000
section
attribute [local go_sem] reduceCtorEq Nat.reduceEqDiff Nat.reduceAdd Nat.reduceSub Nat.reduceMul Nat.reduceLeDiff Int.reduceLT Int.reduceLE Int.reduceEq Int.reduceNeg Int.reduceAdd Int.reduceSub Int.reduceMul true_imp_iff forall_const Nat.mul_one Int.reduceToNat Nat.reducePow Int.reducePow Bool.true_and Bool.false_and Bool.and_false
attribute [local go_sem ↓] reduceIte
namespace Go.A
open Go.Proofs
section
variable {base σ:ASt} {p d n:Nat} {m:Int} {g pg:Pgs}
theorem PW.new (F:Nat) (g:Pgs):PW (List.replicate F none) [] g g:=by
 have key:∀ (i:Nat) (f:Frm),(List.replicate F (none:Option Frm))[i]? = some (some f)->False:=fun i f h=>by
  rw [List.getElem?_replicate] at h
  split at h
  ·injection h with h;cases h
  ·cases h
 exact ⟨fun i f h=>(key i f h).elim,fun i f h=>(key i f h).elim,fun i f h=>(key i f h).elim,fun q v h=>(by cases h),List.nodup_nil,fun i f h=>(key i f h).elim,fun q _=>rfl⟩
set_option maxHeartbeats 1000000 in
theorem plnew_ok (h:DkAt base d m n g σ) (hck:CkT base) {F:Nat} (h1:1<=F) (h2:F<=1000):ACalls Tryz.prog 5 [.ptr d 0,.int .i64 F,.int .i64 0] σ fun v σ'=>∃ p,v = .ptr p 0/\PoolAt base σ' p m n g:=by
 have e1:max (F:Int) 1=(F:Int):=by omega
 have k0:¬ (F:Int)=0:=by omega
 have e2:((F:Int)).tmod (F:Int)=0:=Int.tmod_self
 have e3:(0:Int).tmod (F:Int)=0:=Int.zero_tmod _
 refine a5 (by simp) ?_
 simp (disch:=first|assumption|omega|(simp only [List.length_append,List.length_cons,List.length_nil];omega)) only [go_sem,e1]
 refine mks_own (by omega) (by omega) (by omega) (by omega) fun ra hra=>?_
 simp (disch:=first|assumption|omega|(simp only [List.length_append,List.length_cons,List.length_nil];omega)) only [go_sem]
 refine mkmC_by fun ma hma=>?_
 simp (disch:=first|assumption|omega|(simp only [List.length_append,List.length_cons,List.length_nil];omega)) only [go_sem]
 refine boxC_by rfl fun p hp=>?_
 obtain ⟨m1,m2,hmz⟩:=set_none hma
 obtain ⟨p1,p2,hpz⟩:=set_none hp
 obtain ⟨p3,p4,hpz2⟩:=set_none hpz
 have hl:(List.replicate F (none:Option Frm)).length=F:=List.length_replicate
 have hm:(List.replicate F (none:Option Frm)).map frV=List.replicate F .nilp:=List.map_replicate
 have d3:=((h.add (some (.obj (List.replicate F .nilp))) hra).add (some (.map [])) hma).add (some (.obj (plCs d ra ma F 0 0))) hp
 have b1:=h.gone hra
 have b2:=h.gone hmz
 have b3:=h.gone hpz2
 have hPM:PM base (((base.set ra (some (.obj (List.replicate F .nilp)))).set ma (some (.map []))).set p (some (.obj (plCs d ra ma F 0 0)))) p d ra ma (fun x=>if x=p then 0 else if x=ra then 1 else 2) ((0:Nat):Int) 0 (List.replicate F none) [] none:=by
  have key:∀ (i:Nat) (f:Frm),(List.replicate F (none:Option Frm))[i]? = some (some f)->False:=fun i f h=>by
   rw [List.getElem?_replicate] at h
   split at h
   ·injection h with h;cases h
   ·cases h
  refine ⟨?_,?_,?_,fun i f h=>(key i f h).elim,fun i f h=>(key i f h).elim,if_pos rfl,?_,?_,fun i f h=>(key i f h).elim,b3,b1,b2,fun i f h=>(key i f h).elim,fun x r hx=>?_⟩
  ·rw [hl];exact ASt.set_same _ _ _
  ·rw [ASt.set_ne p4,ASt.set_ne m2,ASt.set_same,hm]
  ·rw [ASt.set_ne p2,ASt.set_same]
  ·show (if ra=p then 0 else if ra=ra then 1 else 2)=1
   rw [if_neg p4,if_pos rfl]
  ·show (if ma=p then 0 else if ma=ra then 1 else 2)=2
   rw [if_neg p2,if_neg m1]
  ·rw [ASt.set_ne (fun e=>by rw [e,b3] at hx;cases hx),ASt.set_ne (fun e=>by rw [e,b2] at hx;cases hx),ASt.set_ne (fun e=>by rw [e,b1] at hx;cases hx)]
   exact hx
 have hfin:PoolAt base (((σ.set ra (some (.obj (List.replicate F .nilp)))).set ma (some (.map []))).set p (some (.obj (plCs d ra ma F 0 0)))) p m n g:=⟨_,d,ra,ma,_,0,_,[],g,d3,hPM,PW.new F g,by rw [hl];omega,by rw [hl];exact h2,hck⟩
 have eF:((F:Int)).toNat=F:=Int.toNat_natCast F
 have hH:∀ τ:ASt,τ p=some (.obj (plCs d ra ma F 0 0))->ACalls Tryz.prog 18 [.ptr p 0,.int .i64 0] τ fun v σ'=>v = .tuple []/\σ'=τ.set p (some (.obj (plCs d ra ma F 0 0))):=fun τ hτ=>by
  unfold plCs at hτ ⊢
  refine a18 (by simp) ?_
  simp (disch:=first|assumption|omega|(simp only [List.length_append,List.length_cons,List.length_nil];omega)) only [go_sem,hτ,e2,e3,Int.zero_add]
  exact retC_by (.refl _) (.refl _) ⟨rfl,rfl⟩
 have hHH:=hH (((σ.set ra (some (.obj (List.replicate F .nilp)))).set ma (some (.map []))).set p (some (.obj (plCs d ra ma F 0 0)))) (ASt.set_same _ _ _)
 rw [ASt.set_set] at hHH
 unfold plCs at hHH hfin
 simp (disch:=first|assumption|omega|(simp only [List.length_append,List.length_cons,List.length_nil];omega)) only [go_sem]
 refine hHH.mono ?_
 rintro v σ' ⟨rfl,rfl⟩
 simp (disch:=first|assumption|omega|(simp only [List.length_append,List.length_cons,List.length_nil];omega)) only [go_sem]
 exact retC_by (.refl _) (.refl _) ⟨p,rfl,hfin⟩
end
/-! Stores known less well,around a call. -/
def Wk (σ σ':ASt):Prop:=∀ w,Sim σ w->Sim σ' w/\Le σ w σ' w
def WkV (σ:ASt) (v:AV) (σ':ASt) (v':AV):Prop:=∀ w u,Sim σ w->Rep σ w v u->Sim σ' w/\Le σ w σ' w/\Rep σ' w v' u
theorem ACalls.wk {P:Program} {σ σ2:ASt} {f:FuncId} {args:List AV} {K:AV->ASt->Prop} (hd:Wk σ σ2) (h:ACalls P f args σ2 K):ACalls P f args σ K:=by
 intro w vs hs hr
 obtain ⟨h1,h2⟩:=hd w hs
 refine (h w vs h1 (hr.mono h2)).mono ?_
 rintro e w' ⟨u,r,σ',he,hk,hle,hs',hr'⟩
 exact ⟨u,r,σ',he,hk,h2.trans hle,hs',hr'⟩
theorem ACalls.post {P:Program} {σ:ASt} {f:FuncId} {args:List AV} {K K':AV->ASt->Prop} (h:ACalls P f args σ K) (hk:∀ v σ',K v σ'->∃ v2 σ2,WkV σ' v σ2 v2/\K' v2 σ2):ACalls P f args σ K':=by
 intro w vs hs hr
 refine (h w vs hs hr).mono ?_
 rintro e w' ⟨u,r,σ',he,hk1,hle,hs',hr'⟩
 obtain ⟨v2,σ2,h2,h3⟩:=hk _ _ hk1
 obtain ⟨g1,g2,g3⟩:=h2 w' u hs' hr'
 exact ⟨u,v2,σ2,he,h3,hle.trans g2,g1,g3⟩
theorem Fzs.len {σ σ':ASt}:∀ {xs ys:List AV},Fzs σ σ' xs ys->ys.length=xs.length
 | _,_,.nil=>rfl
 | _,_,.cons _ h=>by simp [h.len]
mutual
theorem Fz.repL {σ σ':ASt} {w:World} (hle:Le σ w σ' w) (hs:Sim σ w):∀ {a a':AV} {v:Value},Fz σ σ' a a'->Rep σ w a v->Rep σ' w a' v
 | _,_,_,.refl a,h=>h.mono hle
 | _,_,_,.any a,h => .any _
 | _,_,_,.deep a,h=>(h.mono hle).deep
 | _,_,_,.sl k xs,h=>by
   have h:=h.mono hle
   cases h with
   | slE A c=>exact .slE A c
   | slN=>exact .slE none 0
   | sl h1 h2 h3 h4 h5=>exact .sl h1 h2 h3 trivial h5
 | _,_,_,.ptr o hb hn,h=>by
   cases h
   obtain ⟨vs,h1,h2,_⟩:=hs.objCell hb
   refine .imm (At.mk' ((h1.mono hle).drop o) (fun j hj=>⟨hs.lt hb,.inl hn⟩) (fun j v hj=>h2 (o+j) v (by simpa using hj)))
 | _,_,_,.msl o n c s xs hb hn hl hc hz hf,h=>by
   cases h
   obtain ⟨vs,h1,h2,_⟩:=hs.objCell hb
   refine .sl (sz:=s) (Row.unflat hz ?_) hl hc trivial (hs.lt hb)
   rw [hf]
   refine (At.mk' ((h1.mono hle).drop o) (fun j hj=>⟨hs.lt hb,.inl hn⟩) (fun j v hj=>h2 (o+j) v (by simpa using hj))).take _
 | _,_,_,.agg hx,h=>by
   cases h with
   | agg h=>exact .agg (Fzs.repL hle hs hx h)
 | _,_,_,.tuple hx,h=>by
   cases h with
   | tuple h=>exact .tuple (Fzs.repL hle hs hx h)
theorem Fzs.repL {σ σ':ASt} {w:World} (hle:Le σ w σ' w) (hs:Sim σ w):∀ {xs ys:List AV} {vs:List Value},Fzs σ σ' xs ys->Reps σ w xs vs->Reps σ' w ys vs
 | _,_,_,.nil,.nil => .nil
 | _,_,_,.cons h1 h2,.cons h3 h4 => .cons (h1.repL hle hs h3) (h2.repL hle hs h4)
end
def GDrop (σ σ':ASt):Prop:=∀ b,σ' b=σ b\/σ' b=none\/∃ cs cs',σ b=some (.obj cs)/\σ' b=some (.obj cs')/\Fzs σ σ' cs cs'
theorem GDrop.le {σ σ':ASt} (h:GDrop σ σ') (w:World):Le σ w σ' w:=by
 refine ⟨rfl,rfl,rfl,Nat.le_refl _,fun b _ hb=>⟨?_,rfl⟩,fun b cs _ hb=>⟨?_,rfl⟩,fun b f _ hb=>⟨?_,rfl,fun _ _=>rfl⟩⟩
 ·rcases h b with h1|h1|⟨cs,_,h1,h2,_⟩
  ·rw [h1,hb]
  ·exact h1
  ·rw [hb] at h1;cases h1
 ·rcases h b with h1|h1|⟨cs',_,h1,h2,_⟩
  ·exact .inr (by rw [h1,hb])
  ·exact .inl h1
  ·rw [hb] at h1;cases h1
 ·rcases h b with h1|h1|⟨cs',_,h1,h2,_⟩
  ·exact .inr ⟨f,Nat.le_refl _,by rw [h1,hb]⟩
  ·exact .inl h1
  ·rw [hb] at h1;cases h1
theorem GDrop.sim {σ σ':ASt} (h:GDrop σ σ') {w:World} (hs:Sim σ w):Sim σ' w:=by
 intro b r hb
 rcases h b with h1|h1|⟨cs,cs',h1,h2,h3⟩
 ·rw [hb] at h1
  exact (hs b r h1.symm).keep (h.le w) rfl
 ·rw [h1] at hb;cases hb
 ·rw [h2] at hb
  injection hb with hb
  subst hb
  obtain ⟨c,T,fr,h4,h5,h6⟩:=hs b _ h1
  exact ⟨c,T,fr,h4,by rw [h3.len];exact h3.repL (h.le w) hs h5,h6⟩
theorem GDrop.wk {σ σ':ASt} (h:GDrop σ σ'):Wk σ σ':=fun w hs=>⟨h.sim hs,h.le w⟩
theorem GDrop.wkv {σ σ':ASt} (h:GDrop σ σ') {v v':AV} (hz:Fz σ σ' v v'):WkV σ v σ' v':=fun w u hs hr=>⟨h.sim hs,h.le w,hz.repL (h.le w) hs hr⟩
theorem WkV.fz {σ σd:ASt} {v v':AV} (hd:Drop σ σd) (hz:Fz σ σd v v'):WkV σ v σd v':=fun w u hs hr=>⟨hd.sim hs,hd.le w,hz.rep hd.s hs hr⟩
def flatV:AV->Prop
 | .int _ _ | .bool _ | .str _=>True
 | .tuple vs=>∀ v∈vs,match v with
   | .int _ _ | .bool _ | .str _=>True
   | _=>False
 | _=>False
theorem flatV.rep {σ σ':ASt} {w w':World}:∀ {v:AV} {u:Value},flatV v->Rep σ w v u->Rep σ' w' v u
 | .int _ _,_,_,h=>by cases h;exact .int _ _
 | .bool _,_,_,h=>by cases h;exact .bool _
 | .str _,_,_,h=>by cases h;exact .str _
 | .tuple vs,_,hf,h=>by
   cases h with
   | tuple h=>
     refine .tuple ?_
     have key:∀ (vs:List AV) (us:List Value),(∀ v∈vs,match v with | .int _ _ | .bool _ | .str _=>True|_=>False)->Reps σ w vs us->Reps σ' w' vs us:=by
      intro vs
      induction vs with
      | nil=>intro us _ h;cases h;exact .nil
      | cons v vs ih=>
        intro us hf h
        cases h with
        | cons h1 h2=>
          refine .cons ?_ (ih _ (fun v hv=>hf v (List.mem_cons_of_mem _ hv)) h2)
          have:=hf v List.mem_cons_self
          cases v<;>simp at this<;>cases h1
          ·exact .bool _
          ·exact .int _ _
          ·exact .str _
     exact key vs _ hf h
theorem drop_no (σ:ASt):Drop σ noRole:=fun _ => .inr rfl
theorem ACalls.lend {P:Program} {σ:ASt} {f:FuncId} {args args':List AV} {K:AV->Prop} (ha:Fzs σ noRole args args') (h:ACalls P f args' noRole fun v σ'=>(K v/\flatV v)/\σ'=noRole) :
  ACalls P f args σ fun v σ'=>K v/\σ'=σ:=by
 intro w vs hs hr
 have hd:=drop_no σ
 refine (h w vs (hd.sim hs) (ha.rep hd.s hs hr)).mono ?_
 rintro e w' ⟨u,r,σ',he,⟨⟨hk,hf⟩,rfl⟩,hle,hs',hr'⟩
 have hh:∀ b,b<w.heap.size->w'.heap[b]? = w.heap[b]? := fun b hb=>(hle.keep b hb rfl).2
 have hle2:Le σ w σ w':=
  ⟨hle.os,hle.tape,hle.output,hle.size,fun b hb hn=>⟨hn,hh b hb⟩,fun b ds hb hn=>⟨.inr hn,hh b hb⟩,fun b q hb hn=>⟨.inr ⟨q,Nat.le_refl _,hn⟩,shape_of_heap_eq (hh b hb),fun o _=>cell_of_heap_eq (hh b hb) o⟩⟩
 exact ⟨u,r,σ,he,⟨hk,rfl⟩,hle2,fun b q hb=>(hs b q hb).keep hle2 (hh b (hs.lt hb)),hf.rep hr'⟩
theorem Pure.lend {P:Program} {σ:ASt} {f:FuncId} {args args':List AV} {r:AV} (h:Pure P f args' r) (hf:flatV r) (ha:Fzs σ noRole args args'):ACalls P f args σ fun v σ'=>v=r/\σ'=σ:=
 ACalls.lend (K:=fun v=>v=r) ha ((h noRole).mono fun v σ' ⟨h1,h2⟩=>⟨⟨h1,h1▸hf⟩,h2⟩)
end Go.A
namespace Go.A
open Go.Proofs
/-! 30: slices.Insert[[]uint64,uint64] -/
def c30_45:ACode := .seq (.ops [ oq 18 (.mv (.t 0)),oq 19 (.len (.t 18)),oq 8 (.mv (.t 19))]) (.seq (.seq (.ops [ oq 20 (.mv (.t 1)),oq 21 (.mv (.t 8)),oq 22 (.bin .eql (.t 20) (.t 21))]) (.cond (.t 22) (.seq (.ops [ oq 23 (.mv (.t 0)),oq 24 (.mv (.t 2)),oe 25 (.app 33 1 8 [(.int .u64 0)] (.t 23) (.t 24)),oq 6 (.mv (.t 25))]) .ret) .skip)) (.seq (.seq (.ops [ oq 26 (.mv (.t 8)),oq 27 (.mv (.t 7)),oq 28 (.bin .add (.t 26) (.t 27)),oq 29 (.mv (.t 0)),oq 30 (.capo (.t 29)),oq 31 (.bin .gtr (.t 28) (.t 30))]) (.cond (.t 31) (.seq (.ops [ oq 32 (.mv (.t 0)),oq 33 (.mv (.t 1)),oq 34 (.slto (false,1) (.t 32) (.t 33)),oq 35 (.mv (.t 8)),oq 36 (.mv (.t 7)),oq 37 (.bin .add (.t 35) (.t 36)),oq 38 (.mv (.t 1)),oq 39 (.bin .sub (.t 37) (.t 38)),oe 40 (.appm 1 8 [(.int .u64 0)] (.t 34) (.t 39)),oq 9 (.mv (.t 40))]) (.seq (.ops [ oq 41 (.mv (.t 9)),oq 42 (.mv (.t 1)),oq 43 (.slfrom (false,1) (.t 41) (.t 42)),oq 44 (.mv (.t 2)),oe 45 (.cps (.t 43) (.t 44))]) (.seq (.ops [ oq 46 (.mv (.t 9)),oq 47 (.mv (.t 1)),oq 48 (.mv (.t 7)),oq 49 (.bin .add (.t 47) (.t 48)),oq 50 (.slfrom (false,1) (.t 46) (.t 49)),oq 51 (.mv (.t 0)),oq 52 (.mv (.t 1)),oq 53 (.slfrom (false,1) (.t 51) (.t 52)),oe 54 (.cps (.t 50) (.t 53))]) (.seq (.ops [ oq 55 (.mv (.t 9)),oq 6 (.mv (.t 55))]) .ret)))) .skip)) (.seq (.ops [ oq 56 (.mv (.t 0)),oq 57 (.mv (.t 8)),oq 58 (.mv (.t 7)),oq 59 (.bin .add (.t 57) (.t 58)),oq 60 (.slto (false,1) (.t 56) (.t 59)),oq 0 (.mv (.t 60))]) (.seq (.seq (.ops [ oq 61 (.mv (.t 2)),oq 62 (.mv (.t 0)),oq 63 (.mv (.t 1)),oq 64 (.mv (.t 7)),oq 65 (.bin .add (.t 63) (.t 64)),oq 66 (.slfrom (false,1) (.t 62) (.t 65)),oe 67 (.ovl (.t 61) (.t 66)),oq 68 (.un .not (.t 67))]) (.cond (.t 68) (.seq (.ops [ oq 69 (.mv (.t 0)),oq 70 (.mv (.t 1)),oq 71 (.mv (.t 7)),oq 72 (.bin .add (.t 70) (.t 71)),oq 73 (.slfrom (false,1) (.t 69) (.t 72)),oq 74 (.mv (.t 0)),oq 75 (.mv (.t 1)),oq 76 (.slfrom (false,1) (.t 74) (.t 75)),oe 77 (.cps (.t 73) (.t 76))]) (.seq (.ops [ oq 78 (.mv (.t 0)),oq 79 (.mv (.t 1)),oq 80 (.slfrom (false,1) (.t 78) (.t 79)),oq 81 (.mv (.t 2)),oe 82 (.cps (.t 80) (.t 81))]) (.seq (.ops [ oq 83 (.mv (.t 0)),oq 6 (.mv (.t 83))]) .ret))) .skip)) (.seq (.ops [ oq 84 (.mv (.t 0)),oq 85 (.mv (.t 8)),oq 86 (.slfrom (false,1) (.t 84) (.t 85)),oq 87 (.mv (.t 2)),oe 88 (.cps (.t 86) (.t 87))]) (.seq (.ops [ oq 89 (.mv (.t 0)),oq 90 (.mv (.t 1)),oq 91 (.slfrom (false,1) (.t 89) (.t 90)),oq 92 (.mv (.t 7)),oe 93 (.call 61 [(.t 91),(.t 92)])]) (.seq (.ops [ oq 94 (.mv (.t 0)),oq 6 (.mv (.t 94))]) .ret)))))))
def c30_49:ACode := .seq (.ops [ oq 6 (.mv (.v (.sl .full [])))]) (.seq (.ops [ oq 10 (.mv (.t 0)),oq 11 (.mv (.t 1)),oq 12 (.slfrom (false,1) (.t 10) (.t 11))]) (.seq (.ops [ oq 13 (.mv (.t 2)),oq 14 (.len (.t 13)),oq 7 (.mv (.t 14))]) (.seq (.seq (.ops [ oq 15 (.mv (.t 7)),oq 16 (.bin .eql (.t 15) (.v (.int .i64 0)))]) (.cond (.t 16) (.seq (.ops [ oq 17 (.mv (.t 0)),oq 6 (.mv (.t 17))]) .ret) .skip)) c30_45)))
@[go_sem] def c30_45_wp:=wp_of c30_45.eq_1
@[go_sem] def c30_49_wp:=wp_of c30_49.eq_1
def c30:AFn:=⟨95,[.t 6],c30_49⟩
theorem c30_ok:compF Tryz.prog Tryz.f30=some c30:=by kernel_rfl
theorem a30 {args:List AV} {σ:ASt} {R:AV->ASt->Prop} (hl:args.length<=95) (h:c30_49.wp Tryz.prog (RetQ [.t 6] R) (init args) σ):ACalls Tryz.prog 30 args σ R:=acalls_of Tryz.func30 c30_ok hl h
/-! 72: slices.Insert[[]int,int] -/
def c72_45:ACode := .seq (.ops [ oq 18 (.mv (.t 0)),oq 19 (.len (.t 18)),oq 8 (.mv (.t 19))]) (.seq (.seq (.ops [ oq 20 (.mv (.t 1)),oq 21 (.mv (.t 8)),oq 22 (.bin .eql (.t 20) (.t 21))]) (.cond (.t 22) (.seq (.ops [ oq 23 (.mv (.t 0)),oq 24 (.mv (.t 2)),oe 25 (.app 3 1 8 [(.int .i64 0)] (.t 23) (.t 24)),oq 6 (.mv (.t 25))]) .ret) .skip)) (.seq (.seq (.ops [ oq 26 (.mv (.t 8)),oq 27 (.mv (.t 7)),oq 28 (.bin .add (.t 26) (.t 27)),oq 29 (.mv (.t 0)),oq 30 (.capo (.t 29)),oq 31 (.bin .gtr (.t 28) (.t 30))]) (.cond (.t 31) (.seq (.ops [ oq 32 (.mv (.t 0)),oq 33 (.mv (.t 1)),oq 34 (.slto (false,1) (.t 32) (.t 33)),oq 35 (.mv (.t 8)),oq 36 (.mv (.t 7)),oq 37 (.bin .add (.t 35) (.t 36)),oq 38 (.mv (.t 1)),oq 39 (.bin .sub (.t 37) (.t 38)),oe 40 (.appm 1 8 [(.int .i64 0)] (.t 34) (.t 39)),oq 9 (.mv (.t 40))]) (.seq (.ops [ oq 41 (.mv (.t 9)),oq 42 (.mv (.t 1)),oq 43 (.slfrom (false,1) (.t 41) (.t 42)),oq 44 (.mv (.t 2)),oe 45 (.cps (.t 43) (.t 44))]) (.seq (.ops [ oq 46 (.mv (.t 9)),oq 47 (.mv (.t 1)),oq 48 (.mv (.t 7)),oq 49 (.bin .add (.t 47) (.t 48)),oq 50 (.slfrom (false,1) (.t 46) (.t 49)),oq 51 (.mv (.t 0)),oq 52 (.mv (.t 1)),oq 53 (.slfrom (false,1) (.t 51) (.t 52)),oe 54 (.cps (.t 50) (.t 53))]) (.seq (.ops [ oq 55 (.mv (.t 9)),oq 6 (.mv (.t 55))]) .ret)))) .skip)) (.seq (.ops [ oq 56 (.mv (.t 0)),oq 57 (.mv (.t 8)),oq 58 (.mv (.t 7)),oq 59 (.bin .add (.t 57) (.t 58)),oq 60 (.slto (false,1) (.t 56) (.t 59)),oq 0 (.mv (.t 60))]) (.seq (.seq (.ops [ oq 61 (.mv (.t 2)),oq 62 (.mv (.t 0)),oq 63 (.mv (.t 1)),oq 64 (.mv (.t 7)),oq 65 (.bin .add (.t 63) (.t 64)),oq 66 (.slfrom (false,1) (.t 62) (.t 65)),oe 67 (.ovl (.t 61) (.t 66)),oq 68 (.un .not (.t 67))]) (.cond (.t 68) (.seq (.ops [ oq 69 (.mv (.t 0)),oq 70 (.mv (.t 1)),oq 71 (.mv (.t 7)),oq 72 (.bin .add (.t 70) (.t 71)),oq 73 (.slfrom (false,1) (.t 69) (.t 72)),oq 74 (.mv (.t 0)),oq 75 (.mv (.t 1)),oq 76 (.slfrom (false,1) (.t 74) (.t 75)),oe 77 (.cps (.t 73) (.t 76))]) (.seq (.ops [ oq 78 (.mv (.t 0)),oq 79 (.mv (.t 1)),oq 80 (.slfrom (false,1) (.t 78) (.t 79)),oq 81 (.mv (.t 2)),oe 82 (.cps (.t 80) (.t 81))]) (.seq (.ops [ oq 83 (.mv (.t 0)),oq 6 (.mv (.t 83))]) .ret))) .skip)) (.seq (.ops [ oq 84 (.mv (.t 0)),oq 85 (.mv (.t 8)),oq 86 (.slfrom (false,1) (.t 84) (.t 85)),oq 87 (.mv (.t 2)),oe 88 (.cps (.t 86) (.t 87))]) (.seq (.ops [ oq 89 (.mv (.t 0)),oq 90 (.mv (.t 1)),oq 91 (.slfrom (false,1) (.t 89) (.t 90)),oq 92 (.mv (.t 7)),oe 93 (.call 96 [(.t 91),(.t 92)])]) (.seq (.ops [ oq 94 (.mv (.t 0)),oq 6 (.mv (.t 94))]) .ret)))))))
def c72_49:ACode := .seq (.ops [ oq 6 (.mv (.v (.sl .full [])))]) (.seq (.ops [ oq 10 (.mv (.t 0)),oq 11 (.mv (.t 1)),oq 12 (.slfrom (false,1) (.t 10) (.t 11))]) (.seq (.ops [ oq 13 (.mv (.t 2)),oq 14 (.len (.t 13)),oq 7 (.mv (.t 14))]) (.seq (.seq (.ops [ oq 15 (.mv (.t 7)),oq 16 (.bin .eql (.t 15) (.v (.int .i64 0)))]) (.cond (.t 16) (.seq (.ops [ oq 17 (.mv (.t 0)),oq 6 (.mv (.t 17))]) .ret) .skip)) c72_45)))
@[go_sem] def c72_45_wp:=wp_of c72_45.eq_1
@[go_sem] def c72_49_wp:=wp_of c72_49.eq_1
def c72:AFn:=⟨95,[.t 6],c72_49⟩
theorem c72_ok:compF Tryz.prog Tryz.f72=some c72:=by kernel_rfl
theorem a72 {args:List AV} {σ:ASt} {R:AV->ASt->Prop} (hl:args.length<=95) (h:c72_49.wp Tryz.prog (RetQ [.t 6] R) (init args) σ):ACalls Tryz.prog 72 args σ R:=acalls_of Tryz.func72 c72_ok hl h
end Go.A
namespace Go.A
open Go.Proofs
def kv (k:IntKind) (l:List Nat):List AV:=l.map fun (n:Nat)=>AV.int k (n:Int)
def insL (l:List Nat) (i v:Nat):List Nat:=l.take i++v::l.drop i
def delL (l:List Nat) (i:Nat):List Nat:=l.take i++l.drop (i+1)
theorem kv_len (k:IntKind) (l:List Nat):(kv k l).length=l.length:=List.length_map _
theorem kv_app (k:IntKind) (l m:List Nat):kv k (l++m)=kv k l++kv k m:=List.map_append
theorem kv_cons (k:IntKind) (n:Nat) (l:List Nat):kv k (n::l) = .int k n::kv k l:=rfl
theorem kv_take (k:IntKind) (l:List Nat) (i:Nat):(kv k l).take i=kv k (l.take i):=List.map_take.symm
theorem kv_drop (k:IntKind) (l:List Nat) (i:Nat):(kv k l).drop i=kv k (l.drop i):=List.map_drop.symm
theorem kv_split (k:IntKind) (l:List Nat) (i:Nat):kv k l=kv k (l.take i)++kv k (l.drop i):=by rw [<-kv_app,List.take_append_drop]
theorem kv_leaves (k:IntKind) (l:List Nat):leaves (kv k l)=true:=by
 induction l with
 | nil=>rfl
 | cons n l ih=>rw [kv_cons,leaves_cons,ih];rfl
theorem kv_cells {k:IntKind} {l:List Nat} {x:AV} (h:x∈kv k l):x.cells = [x]:=by
 obtain ⟨n,_,rfl⟩:=List.mem_map.1 h
 rfl
theorem kv_flat (k:IntKind) (l:List Nat):(kv k l).flatMap AV.cells=kv k l:=by
 induction l with
 | nil=>rfl
 | cons n l ih=>rw [kv_cons,List.flatMap_cons,ih];rfl
theorem kv_well (k:IntKind) (l:List Nat):wellSz 1 (kv k l)=true:=wellSz_map (f:=fun (n:Nat)=>AV.int k (n:Int)) (fun n=>⟨rfl,rfl⟩) l
theorem kv_get {k:IntKind} {l:List Nat} {i n:Nat} (h:l[i]? = some n):(kv k l)[i]? = some (.int k n):=by unfold kv;rw [List.getElem?_map,h];rfl
theorem kv_get' {k:IntKind} {l:List Nat} {R:List AV} {i n:Nat} (h:l[i]? = some n):(kv k l++R)[i]? = some (.int k n):=by
 rw [List.getElem?_append_left (by rw [kv_len];exact (List.getElem?_eq_some_iff.1 h).1)]
 exact kv_get h
theorem splice_mid {A B C ys:List AV} {o n:Nat} (ho:A.length=o) (hn:B.length=n):splice (A++B++C) o n ys=A++ys++C:=by
 subst ho hn
 unfold splice
 have e:(A++B++C).drop (A.length+B.length)=C:=by rw [<-List.length_append,List.drop_left]
 rw [e,List.append_assoc A B C,List.take_left]
theorem mid_get {A B C:List AV} {o n:Nat} (ho:A.length=o) (hn:B.length=n):((A++B++C).drop o).take n=B:=by
 subst ho hn
 rw [List.append_assoc,List.drop_left,List.take_left]
theorem slV_nat {b o n c lo hi:Nat} (h1:lo<=hi) (h2:hi<=c) (h3:lo<c):slV (false,1) (.msl b o n c) (lo:Int) (hi:Int)=some (.msl b (o+lo) (hi-lo) (c-lo)):=by
 rw [slV_msl (by omega) (by omega) (by omega) (by omega),Int.toNat_natCast,Int.toNat_natCast,Nat.mul_one]
theorem slV_any {b o n c lo hi:Nat} (h1:lo<=hi) (h2:hi<=c):∃ v,slV (false,1) (.msl b o n c) (lo:Int) (hi:Int)=some v:=by
 by_cases h3:lo<c
 ·exact ⟨_,slV_nat h1 h2 h3⟩
 ·exact ⟨_,slV_end (by omega) (by omega) (by omega) (by omega)⟩
theorem ret_own {σ:ASt} {X Y n c:Nat} {cs xs:List AV} (hY:Y=X\/σ Y=none) (hn:n=xs.length) (hc:n<=c) (h1:∀ x∈xs,x.cells = [x]) (hcs:cs.take n=xs) :
  RetC (some [.msl Y 0 n c]) (fun r σ'=>r = .sl .shr xs/\σ'=σ.set X none) (σ.set Y (some (.obj cs))):=by
 have hYn:(σ.set X none) Y=none:=by
  rcases hY with rfl|h
  ·exact ASt.set_same _ _ _
  ·by_cases hx:Y=X
   ·rw [hx,ASt.set_same]
   ·rw [ASt.set_ne hx];exact h
 have hfl:xs.flatMap AV.cells=xs:=by
  clear hn hcs
  induction xs with
  | nil=>rfl
  | cons x xs ih=>
    rw [List.flatMap_cons,h1 x List.mem_cons_self,ih fun y hy=>h1 y (List.mem_cons_of_mem _ hy)]
    rfl
 refine retC_by (r := .sl .shr xs) (σ':=σ.set X none) (fun x=>?_) (.msl (cs:=cs) 0 n c 1 xs (ASt.set_same _ _ _) hYn hn hc (fun x hx=>by rw [h1 x hx];rfl) (by rw [hfl,List.drop_zero,Nat.mul_one,hcs])) ⟨rfl,rfl⟩
 by_cases hx:x=X
 ·rw [hx,ASt.set_same];exact .inr rfl
 ·by_cases hxy:x=Y
  ·rw [hxy];exact .inr hYn
  ·rw [ASt.set_ne hx,ASt.set_ne hxy];exact .inl rfl
set_option maxHeartbeats 1000000 in
theorem xIns64_ok {σ:ASt} {X c:Nat} {R:List AV} {l:List Nat} {i v:Nat} (hX:σ X=some (.obj (kv .u64 l++R))) (hc:l.length<=c) (hR:c<=l.length+R.length) (hRv:leaves R=true) (hi:i<=l.length) (hl:l.length<=1000) :
  ACalls Tryz.prog 30 [.msl X 0 l.length c,.int .i64 i,.sl .lit [.int .u64 v]] σ fun r σ'=>r = .sl .shr (kv .u64 (insL l i v))/\σ'=σ.set X none:=by
 have hfin:kv .u64 (insL l i v)=kv .u64 (l.take i) ++ [.int .u64 v]++kv .u64 (l.drop i):=by
  unfold insL
  rw [kv_app,kv_cons,List.append_assoc]
  rfl
 have hcell:∀ x∈kv .u64 (insL l i v),x.cells = [x]:=fun x hx=>kv_cells hx
 have hlen:l.length+1=(kv .u64 (insL l i v)).length:=by rw [hfin];simp only [List.length_append,kv_len,List.length_take,List.length_drop,List.length_singleton];omega
 have hfl : [AV.int .u64 (v:Int)].flatMap AV.cells = [AV.int .u64 (v:Int)]:=rfl
 have h1l : [AV.int .u64 (v:Int)].length=1:=rfl
 obtain ⟨n,hn⟩:∃ n,n=l.length:=⟨_,rfl⟩
 obtain ⟨P,hP⟩:∃ P,P=kv .u64 (l.take i):=⟨_,rfl⟩
 obtain ⟨S,hS⟩:∃ S,S=kv .u64 (l.drop i):=⟨_,rfl⟩
 have hPl:P.length=i:=by rw [hP,kv_len,List.length_take];omega
 have hSl:S.length=n-i:=by rw [hS,kv_len,List.length_drop];omega
 have hSv:leaves S=true:=by rw [hS];exact kv_leaves _ _
 rw [kv_split .u64 l i,← hP,← hS] at hX
 rw [<-hP,← hS] at hfin
 rw [<-hn] at hc hR hi hl hlen ⊢
 generalize kv .u64 (insL l i v)=out at *
 clear hP hS hn
 subst hfin
 have hMl:(P++S++R).length=n+R.length:=by simp only [List.length_append];omega
 obtain ⟨sv,hsv⟩:=slV_any (b:=X) (o:=0) (n:=n) (c:=c) hi hc
 have e1:((0+1:Nat):Int)=1:=rfl
 refine a30 (by simp) ?_
 by_cases g:i=n
 ·subst g
  have hS0:S = []:=List.eq_nil_of_length_eq_zero (by omega)
  subst hS0
  rw [List.append_nil] at hX hlen hcell hMl ⊢
  have ht:(P++R).take i=P:=by rw [<-hPl,List.take_left]
  simp (disch:=first|assumption|omega|(simp only [List.length_append,List.length_cons,List.length_nil];omega)) only [go_sem,hsv,e1,hX]
  refine appM_by rfl rfl (by rw [h1l];omega) (by rw [h1l];omega) (by omega) (fun hroom=>⟨by rw [h1l] at hroom ⊢;omega,?_⟩) (fun hgrow b' c' hb' hc'=>?_)
  ·rw [h1l] at hroom ⊢
   have hs:splice (P++R) (0+i*1) (1*1) ([AV.int .u64 (v:Int)].flatMap AV.cells)=P ++ [AV.int .u64 (v:Int)]++R.drop 1:=by
    have e:P++R=P++R.take 1++R.drop 1:=by rw [List.append_assoc,List.take_append_drop]
    rw [e,hfl]
    exact splice_mid (by omega) (by rw [List.length_take];omega)
   rw [hs]
   simp (disch:=first|assumption|omega|(simp only [List.length_append,List.length_cons,List.length_nil];omega)) only [go_sem]
   exact ret_own (.inl rfl) hlen (by omega) hcell (by rw [hlen,List.take_left])
  ·rw [h1l] at hgrow hc' ⊢
   rw [hfl,List.drop_zero,Nat.mul_one,ht]
   unfold ownRow
   simp (disch:=first|assumption|omega|(simp only [List.length_append,List.length_cons,List.length_nil];omega)) only [go_sem]
   exact ret_own (.inr hb') hlen (by omega) hcell (by rw [hlen,List.take_left])
 ·have hin:i<n:=by omega
  have g':¬ (i:Int)=(n:Int):=by omega
  have hs1:slV (false,1) (.msl X 0 n c) (i:Int) (n:Int)=some (.msl X i (n-i) (c-i)):=by rw [slV_nat hi hc (by omega),Nat.zero_add]
  have hsrc0:((P++S++R).drop i).take (n-i)=S:=mid_get hPl hSl
  by_cases gc:n+1<=c
  ·have gc':¬ (c:Int)<(n:Int)+1:=by omega
   have hs2:slV (false,1) (.msl X 0 n c) 0 ((n:Int)+1)=some (.msl X 0 (n+1) c):=by
    have:=slV_nat (b:=X) (o:=0) (n:=n) (c:=c) (lo:=0) (hi:=n+1) (by omega) gc (by omega)
    exact this
   have hs3:slV (false,1) (.msl X 0 (n+1) c) ((i:Int)+1) ((n:Int)+1)=some (.msl X (i+1) (n-i) (c-(i+1))):=by
    have:=slV_nat (b:=X) (o:=0) (n:=n+1) (c:=c) (lo:=i+1) (hi:=n+1) (by omega) gc (by omega)
    rw [Nat.zero_add,show n+1-(i+1)=n-i from by omega] at this
    exact this
   have hs4:slV (false,1) (.msl X 0 (n+1) c) (i:Int) ((n:Int)+1)=some (.msl X i (n+1-i) (c-i)):=by
    have:=slV_nat (b:=X) (o:=0) (n:=n+1) (c:=c) (lo:=i) (hi:=n+1) (by omega) gc (by omega)
    rw [Nat.zero_add] at this
    exact this
   obtain ⟨r0,R',rfl⟩:∃ r0 R',R=r0::R':=by
    cases R with
    | nil=>simp only [List.length_nil] at hR;omega
    | cons r0 R'=>exact ⟨r0,R',rfl⟩
   have hr0:r0.leaf=true:=by rw [leaves_cons,Bool.and_eq_true] at hRv;exact hRv.1
   have hml:(P++S++r0::R').length=n+R'.length+1:=by rw [hMl];rfl
   have hRl:(r0::R').length=R'.length+1:=rfl
   rw [hRl] at hR
   have hsrc:((P++S++r0::R').drop i).take (n+1-i)=S ++ [r0]:=by
    have e:P++S++r0::R'=P++(S ++ [r0])++R':=by simp only [List.append_assoc,List.cons_append,List.nil_append]
    rw [e]
    exact mid_get hPl (by rw [List.length_append,hSl,List.length_singleton];omega)
   obtain ⟨Z,Y,hZY,hZl⟩:∃ Z Y,S ++ [r0]=Z++Y/\Z.length=1:=⟨(S ++ [r0]).take 1,(S ++ [r0]).drop 1,(List.take_append_drop _ _).symm,by rw [List.length_take,List.length_append,List.length_singleton];omega⟩
   have hYl:Y.length=n-i:=by
    have:=congrArg List.length hZY
    rw [List.length_append,List.length_append,hSl,hZl,List.length_singleton] at this
    omega
   have hsp1:splice (P++S++r0::R') (i+1) (n-i) S=P++Z++(S++R'):=by
    have e:P++S++r0::R'=(P++Z)++Y++R':=by
     have:P++S++r0::R'=P++(S ++ [r0])++R':=by simp only [List.append_assoc,List.cons_append,List.nil_append]
     rw [this,hZY]
     simp only [List.append_assoc]
    rw [e,splice_mid (by rw [List.length_append,hPl,hZl]) hYl,List.append_assoc]
   have hsp2:splice (P++Z++(S++R')) i 1 [AV.int .u64 (v:Int)]=P ++ [AV.int .u64 (v:Int)]++S++R':=by
    rw [splice_mid hPl hZl]
    simp only [List.append_assoc]
   have htk:(S ++ [r0]).take (n-i)=S:=by rw [<-hSl,List.take_left]
   have htl:(P++Z++(S++R')).length=n+R'.length+1:=by simp only [List.length_append,hPl,hZl,hSl];omega
   simp (disch:=first|assumption|omega|(simp only [List.length_append,List.length_cons,List.length_nil];omega)) only [go_sem,hsv,e1,g',gc',hs2,hs3]
   refine ovlC_by hX (by omega) ?_
   simp (disch:=first|assumption|omega|(simp only [List.length_append,List.length_cons,List.length_nil];omega)) only [go_sem,hs3,hs4]
   refine cpsC_by hX (srcOf_msl hX (by omega)) (by rw [hsrc,leaves_app,hSv,leaves_cons,hr0];rfl) (by omega) ?_
   rw [hsrc,htk,hSl,hsp1]
   simp (disch:=first|assumption|omega|(simp only [List.length_append,List.length_cons,List.length_nil];omega)) only [go_sem,hs4]
   refine cpsC_by (ASt.set_same _ _ _) srcOf_sl rfl (by omega) ?_
   have ht1 : [AV.int .u64 (v:Int)].take (n+1-i) = [AV.int .u64 (v:Int)]:=List.take_of_length_le (by rw [h1l];omega)
   rw [ht1,h1l,hsp2,ASt.set_set]
   simp (disch:=first|assumption|omega|(simp only [List.length_append,List.length_cons,List.length_nil];omega)) only [go_sem]
   exact ret_own (.inl rfl) hlen (by omega) hcell (by rw [hlen,List.take_left])
  ·have gc':(c:Int)<(n:Int)+1:=by omega
   have hs2:slV (false,1) (.msl X 0 n c) 0 (i:Int)=some (.msl X 0 i c):=by
    have:=slV_nat (b:=X) (o:=0) (n:=n) (c:=c) (lo:=0) (hi:=i) (by omega) (by omega) (by omega)
    exact this
   have e2:(n:Int)+1-(i:Int)=((n+1-i:Nat):Int):=by omega
   have hni:i+(n+1-i)=n+1:=by omega
   simp (disch:=first|assumption|omega|(simp only [List.length_append,List.length_cons,List.length_nil];omega)) only [go_sem,hsv,e1,g',gc',hs2,e2]
   refine appmC_by hX rfl (by omega) (by omega) (by omega) (fun h=>absurd h (by omega)) (fun _ b' c' hb' hc'=>?_)
   rw [hni] at hc' ⊢
   have hbX:b'≠X:=fun e=>by rw [e,hX] at hb';cases hb'
   have hXb:X≠b':=Ne.symm hbX
   have ht:((P++S++R).drop 0).take (i*1)=P:=by rw [List.drop_zero,Nat.mul_one,List.append_assoc,← hPl,List.take_left]
   rw [ht]
   obtain ⟨Z,hZ,hZl⟩:∃ Z,ownRow 1 [AV.int .u64 0] (P++(List.replicate (n+1-i) [AV.int .u64 0]).flatten) (n+1) c'=P++Z/\Z.length=c'-i:=by
    refine ⟨(List.replicate (n+1-i) [AV.int .u64 0]).flatten++(List.range ((c'-(n+1))*1)).map fun i => [AV.int .u64 0].getD (i % 1) .any,?_,?_⟩
    ·unfold ownRow
     rw [List.append_assoc]
    ·rw [List.length_append,List.length_map,List.length_range,List.flatten_replicate_singleton,List.length_replicate]
     omega
   rw [hZ]
   have hs3:slV (false,1) (.msl b' 0 (n+1) c') (i:Int) ((n:Int)+1)=some (.msl b' i (n+1-i) (c'-i)):=by
    have:=slV_nat (b:=b') (o:=0) (n:=n+1) (c:=c') (lo:=i) (hi:=n+1) (by omega) hc' (by omega)
    rw [Nat.zero_add] at this
    exact this
   have hs4:slV (false,1) (.msl b' 0 (n+1) c') ((i:Int)+1) ((n:Int)+1)=some (.msl b' (i+1) (n-i) (c'-(i+1))):=by
    have:=slV_nat (b:=b') (o:=0) (n:=n+1) (c:=c') (lo:=i+1) (hi:=n+1) (by omega) hc' (by omega)
    rw [Nat.zero_add,show n+1-(i+1)=n-i from by omega] at this
    exact this
   have hZe:P++Z=P++Z.take 1++Z.drop 1:=by rw [List.append_assoc,List.take_append_drop]
   have hZt:(Z.take 1).length=1:=by rw [List.length_take];omega
   have hsp1:splice (P++Z) i 1 [AV.int .u64 (v:Int)]=P ++ [AV.int .u64 (v:Int)]++Z.drop 1:=by rw [hZe];exact splice_mid hPl hZt
   have hZd:(Z.drop 1).length=c'-i-1:=by rw [List.length_drop];omega
   have hsp2:splice (P ++ [AV.int .u64 (v:Int)]++Z.drop 1) (i+1) (n-i) S=P ++ [AV.int .u64 (v:Int)]++S++(Z.drop 1).drop (n-i):=by
    have e:P ++ [AV.int .u64 (v:Int)]++Z.drop 1=P ++ [AV.int .u64 (v:Int)]++(Z.drop 1).take (n-i)++(Z.drop 1).drop (n-i):=by rw [List.append_assoc (P++_),List.take_append_drop]
    rw [e]
    exact splice_mid (by rw [List.length_append,hPl,h1l]) (by rw [List.length_take];omega)
   have htk:S.take (n-i)=S:=List.take_of_length_le (by omega)
   have hl1:(P++Z).length=c':=by rw [List.length_append];omega
   have hl2:(P ++ [AV.int .u64 (v:Int)]++Z.drop 1).length=c':=by simp only [List.length_append,hZd,h1l];omega
   simp (disch:=first|assumption|omega|(simp only [List.length_append,List.length_cons,List.length_nil];omega)) only [go_sem,hs3]
   refine cpsC_by (ASt.set_same _ _ _) srcOf_sl rfl (by omega) ?_
   have ht1 : [AV.int .u64 (v:Int)].take (n+1-i) = [AV.int .u64 (v:Int)]:=List.take_of_length_le (by rw [h1l];omega)
   rw [ht1,h1l,hsp1,ASt.set_set]
   simp (disch:=first|assumption|omega|(simp only [List.length_append,List.length_cons,List.length_nil];omega)) only [go_sem,hs4,hs1]
   refine cpsC_by (ys:=S) (ASt.set_same _ _ _) (by rw [srcOf_msl ((ASt.set_ne hXb).trans hX) (by omega),hsrc0]) hSv (by omega) ?_
   rw [htk,hSl,hsp2,ASt.set_set]
   simp (disch:=first|assumption|omega|(simp only [List.length_append,List.length_cons,List.length_nil];omega)) only [go_sem]
   exact ret_own (.inr hb') hlen (by omega) hcell (by rw [hlen,List.take_left])
set_option maxHeartbeats 1000000 in
theorem xInsI_ok {σ:ASt} {X c:Nat} {R:List AV} {l:List Nat} {i v:Nat} (hX:σ X=some (.obj (kv .i64 l++R))) (hc:l.length<=c) (hR:c<=l.length+R.length) (hRv:leaves R=true) (hi:i<=l.length) (hl:l.length<=1000) :
  ACalls Tryz.prog 72 [.msl X 0 l.length c,.int .i64 i,.sl .lit [.int .i64 v]] σ fun r σ'=>r = .sl .shr (kv .i64 (insL l i v))/\σ'=σ.set X none:=by
 have hfin:kv .i64 (insL l i v)=kv .i64 (l.take i) ++ [.int .i64 v]++kv .i64 (l.drop i):=by
  unfold insL
  rw [kv_app,kv_cons,List.append_assoc]
  rfl
 have hcell:∀ x∈kv .i64 (insL l i v),x.cells = [x]:=fun x hx=>kv_cells hx
 have hlen:l.length+1=(kv .i64 (insL l i v)).length:=by rw [hfin];simp only [List.length_append,kv_len,List.length_take,List.length_drop,List.length_singleton];omega
 have hfl : [AV.int .i64 (v:Int)].flatMap AV.cells = [AV.int .i64 (v:Int)]:=rfl
 have h1l : [AV.int .i64 (v:Int)].length=1:=rfl
 obtain ⟨n,hn⟩:∃ n,n=l.length:=⟨_,rfl⟩
 obtain ⟨P,hP⟩:∃ P,P=kv .i64 (l.take i):=⟨_,rfl⟩
 obtain ⟨S,hS⟩:∃ S,S=kv .i64 (l.drop i):=⟨_,rfl⟩
 have hPl:P.length=i:=by rw [hP,kv_len,List.length_take];omega
 have hSl:S.length=n-i:=by rw [hS,kv_len,List.length_drop];omega
 have hSv:leaves S=true:=by rw [hS];exact kv_leaves _ _
 rw [kv_split .i64 l i,← hP,← hS] at hX
 rw [<-hP,← hS] at hfin
 rw [<-hn] at hc hR hi hl hlen ⊢
 generalize kv .i64 (insL l i v)=out at *
 clear hP hS hn
 subst hfin
 have hMl:(P++S++R).length=n+R.length:=by simp only [List.length_append];omega
 obtain ⟨sv,hsv⟩:=slV_any (b:=X) (o:=0) (n:=n) (c:=c) hi hc
 have e1:((0+1:Nat):Int)=1:=rfl
 refine a72 (by simp) ?_
 by_cases g:i=n
 ·subst g
  have hS0:S = []:=List.eq_nil_of_length_eq_zero (by omega)
  subst hS0
  rw [List.append_nil] at hX hlen hcell hMl ⊢
  have ht:(P++R).take i=P:=by rw [<-hPl,List.take_left]
  simp (disch:=first|assumption|omega|(simp only [List.length_append,List.length_cons,List.length_nil];omega)) only [go_sem,hsv,e1,hX]
  refine appM_by rfl rfl (by rw [h1l];omega) (by rw [h1l];omega) (by omega) (fun hroom=>⟨by rw [h1l] at hroom ⊢;omega,?_⟩) (fun hgrow b' c' hb' hc'=>?_)
  ·rw [h1l] at hroom ⊢
   have hs:splice (P++R) (0+i*1) (1*1) ([AV.int .i64 (v:Int)].flatMap AV.cells)=P ++ [AV.int .i64 (v:Int)]++R.drop 1:=by
    have e:P++R=P++R.take 1++R.drop 1:=by rw [List.append_assoc,List.take_append_drop]
    rw [e,hfl]
    exact splice_mid (by omega) (by rw [List.length_take];omega)
   rw [hs]
   simp (disch:=first|assumption|omega|(simp only [List.length_append,List.length_cons,List.length_nil];omega)) only [go_sem]
   exact ret_own (.inl rfl) hlen (by omega) hcell (by rw [hlen,List.take_left])
  ·rw [h1l] at hgrow hc' ⊢
   rw [hfl,List.drop_zero,Nat.mul_one,ht]
   unfold ownRow
   simp (disch:=first|assumption|omega|(simp only [List.length_append,List.length_cons,List.length_nil];omega)) only [go_sem]
   exact ret_own (.inr hb') hlen (by omega) hcell (by rw [hlen,List.take_left])
 ·have hin:i<n:=by omega
  have g':¬ (i:Int)=(n:Int):=by omega
  have hs1:slV (false,1) (.msl X 0 n c) (i:Int) (n:Int)=some (.msl X i (n-i) (c-i)):=by rw [slV_nat hi hc (by omega),Nat.zero_add]
  have hsrc0:((P++S++R).drop i).take (n-i)=S:=mid_get hPl hSl
  by_cases gc:n+1<=c
  ·have gc':¬ (c:Int)<(n:Int)+1:=by omega
   have hs2:slV (false,1) (.msl X 0 n c) 0 ((n:Int)+1)=some (.msl X 0 (n+1) c):=by
    have:=slV_nat (b:=X) (o:=0) (n:=n) (c:=c) (lo:=0) (hi:=n+1) (by omega) gc (by omega)
    exact this
   have hs3:slV (false,1) (.msl X 0 (n+1) c) ((i:Int)+1) ((n:Int)+1)=some (.msl X (i+1) (n-i) (c-(i+1))):=by
    have:=slV_nat (b:=X) (o:=0) (n:=n+1) (c:=c) (lo:=i+1) (hi:=n+1) (by omega) gc (by omega)
    rw [Nat.zero_add,show n+1-(i+1)=n-i from by omega] at this
    exact this
   have hs4:slV (false,1) (.msl X 0 (n+1) c) (i:Int) ((n:Int)+1)=some (.msl X i (n+1-i) (c-i)):=by
    have:=slV_nat (b:=X) (o:=0) (n:=n+1) (c:=c) (lo:=i) (hi:=n+1) (by omega) gc (by omega)
    rw [Nat.zero_add] at this
    exact this
   obtain ⟨r0,R',rfl⟩:∃ r0 R',R=r0::R':=by
    cases R with
    | nil=>simp only [List.length_nil] at hR;omega
    | cons r0 R'=>exact ⟨r0,R',rfl⟩
   have hr0:r0.leaf=true:=by rw [leaves_cons,Bool.and_eq_true] at hRv;exact hRv.1
   have hml:(P++S++r0::R').length=n+R'.length+1:=by rw [hMl];rfl
   have hRl:(r0::R').length=R'.length+1:=rfl
   rw [hRl] at hR
   have hsrc:((P++S++r0::R').drop i).take (n+1-i)=S ++ [r0]:=by
    have e:P++S++r0::R'=P++(S ++ [r0])++R':=by simp only [List.append_assoc,List.cons_append,List.nil_append]
    rw [e]
    exact mid_get hPl (by rw [List.length_append,hSl,List.length_singleton];omega)
   obtain ⟨Z,Y,hZY,hZl⟩:∃ Z Y,S ++ [r0]=Z++Y/\Z.length=1:=⟨(S ++ [r0]).take 1,(S ++ [r0]).drop 1,(List.take_append_drop _ _).symm,by rw [List.length_take,List.length_append,List.length_singleton];omega⟩
   have hYl:Y.length=n-i:=by
    have:=congrArg List.length hZY
    rw [List.length_append,List.length_append,hSl,hZl,List.length_singleton] at this
    omega
   have hsp1:splice (P++S++r0::R') (i+1) (n-i) S=P++Z++(S++R'):=by
    have e:P++S++r0::R'=(P++Z)++Y++R':=by
     have:P++S++r0::R'=P++(S ++ [r0])++R':=by simp only [List.append_assoc,List.cons_append,List.nil_append]
     rw [this,hZY]
     simp only [List.append_assoc]
    rw [e,splice_mid (by rw [List.length_append,hPl,hZl]) hYl,List.append_assoc]
   have hsp2:splice (P++Z++(S++R')) i 1 [AV.int .i64 (v:Int)]=P ++ [AV.int .i64 (v:Int)]++S++R':=by
    rw [splice_mid hPl hZl]
    simp only [List.append_assoc]
   have htk:(S ++ [r0]).take (n-i)=S:=by rw [<-hSl,List.take_left]
   have htl:(P++Z++(S++R')).length=n+R'.length+1:=by simp only [List.length_append,hPl,hZl,hSl];omega
   simp (disch:=first|assumption|omega|(simp only [List.length_append,List.length_cons,List.length_nil];omega)) only [go_sem,hsv,e1,g',gc',hs2,hs3]
   refine ovlC_by hX (by omega) ?_
   simp (disch:=first|assumption|omega|(simp only [List.length_append,List.length_cons,List.length_nil];omega)) only [go_sem,hs3,hs4]
   refine cpsC_by hX (srcOf_msl hX (by omega)) (by rw [hsrc,leaves_app,hSv,leaves_cons,hr0];rfl) (by omega) ?_
   rw [hsrc,htk,hSl,hsp1]
   simp (disch:=first|assumption|omega|(simp only [List.length_append,List.length_cons,List.length_nil];omega)) only [go_sem,hs4]
   refine cpsC_by (ASt.set_same _ _ _) srcOf_sl rfl (by omega) ?_
   have ht1 : [AV.int .i64 (v:Int)].take (n+1-i) = [AV.int .i64 (v:Int)]:=List.take_of_length_le (by rw [h1l];omega)
   rw [ht1,h1l,hsp2,ASt.set_set]
   simp (disch:=first|assumption|omega|(simp only [List.length_append,List.length_cons,List.length_nil];omega)) only [go_sem]
   exact ret_own (.inl rfl) hlen (by omega) hcell (by rw [hlen,List.take_left])
  ·have gc':(c:Int)<(n:Int)+1:=by omega
   have hs2:slV (false,1) (.msl X 0 n c) 0 (i:Int)=some (.msl X 0 i c):=by
    have:=slV_nat (b:=X) (o:=0) (n:=n) (c:=c) (lo:=0) (hi:=i) (by omega) (by omega) (by omega)
    exact this
   have e2:(n:Int)+1-(i:Int)=((n+1-i:Nat):Int):=by omega
   have hni:i+(n+1-i)=n+1:=by omega
   simp (disch:=first|assumption|omega|(simp only [List.length_append,List.length_cons,List.length_nil];omega)) only [go_sem,hsv,e1,g',gc',hs2,e2]
   refine appmC_by hX rfl (by omega) (by omega) (by omega) (fun h=>absurd h (by omega)) (fun _ b' c' hb' hc'=>?_)
   rw [hni] at hc' ⊢
   have hbX:b'≠X:=fun e=>by rw [e,hX] at hb';cases hb'
   have hXb:X≠b':=Ne.symm hbX
   have ht:((P++S++R).drop 0).take (i*1)=P:=by rw [List.drop_zero,Nat.mul_one,List.append_assoc,← hPl,List.take_left]
   rw [ht]
   obtain ⟨Z,hZ,hZl⟩:∃ Z,ownRow 1 [AV.int .i64 0] (P++(List.replicate (n+1-i) [AV.int .i64 0]).flatten) (n+1) c'=P++Z/\Z.length=c'-i:=by
    refine ⟨(List.replicate (n+1-i) [AV.int .i64 0]).flatten++(List.range ((c'-(n+1))*1)).map fun i => [AV.int .i64 0].getD (i % 1) .any,?_,?_⟩
    ·unfold ownRow
     rw [List.append_assoc]
    ·rw [List.length_append,List.length_map,List.length_range,List.flatten_replicate_singleton,List.length_replicate]
     omega
   rw [hZ]
   have hs3:slV (false,1) (.msl b' 0 (n+1) c') (i:Int) ((n:Int)+1)=some (.msl b' i (n+1-i) (c'-i)):=by
    have:=slV_nat (b:=b') (o:=0) (n:=n+1) (c:=c') (lo:=i) (hi:=n+1) (by omega) hc' (by omega)
    rw [Nat.zero_add] at this
    exact this
   have hs4:slV (false,1) (.msl b' 0 (n+1) c') ((i:Int)+1) ((n:Int)+1)=some (.msl b' (i+1) (n-i) (c'-(i+1))):=by
    have:=slV_nat (b:=b') (o:=0) (n:=n+1) (c:=c') (lo:=i+1) (hi:=n+1) (by omega) hc' (by omega)
    rw [Nat.zero_add,show n+1-(i+1)=n-i from by omega] at this
    exact this
   have hZe:P++Z=P++Z.take 1++Z.drop 1:=by rw [List.append_assoc,List.take_append_drop]
   have hZt:(Z.take 1).length=1:=by rw [List.length_take];omega
   have hsp1:splice (P++Z) i 1 [AV.int .i64 (v:Int)]=P ++ [AV.int .i64 (v:Int)]++Z.drop 1:=by rw [hZe];exact splice_mid hPl hZt
   have hZd:(Z.drop 1).length=c'-i-1:=by rw [List.length_drop];omega
   have hsp2:splice (P ++ [AV.int .i64 (v:Int)]++Z.drop 1) (i+1) (n-i) S=P ++ [AV.int .i64 (v:Int)]++S++(Z.drop 1).drop (n-i):=by
    have e:P ++ [AV.int .i64 (v:Int)]++Z.drop 1=P ++ [AV.int .i64 (v:Int)]++(Z.drop 1).take (n-i)++(Z.drop 1).drop (n-i):=by rw [List.append_assoc (P++_),List.take_append_drop]
    rw [e]
    exact splice_mid (by rw [List.length_append,hPl,h1l]) (by rw [List.length_take];omega)
   have htk:S.take (n-i)=S:=List.take_of_length_le (by omega)
   have hl1:(P++Z).length=c':=by rw [List.length_append];omega
   have hl2:(P ++ [AV.int .i64 (v:Int)]++Z.drop 1).length=c':=by simp only [List.length_append,hZd,h1l];omega
   simp (disch:=first|assumption|omega|(simp only [List.length_append,List.length_cons,List.length_nil];omega)) only [go_sem,hs3]
   refine cpsC_by (ASt.set_same _ _ _) srcOf_sl rfl (by omega) ?_
   have ht1 : [AV.int .i64 (v:Int)].take (n+1-i) = [AV.int .i64 (v:Int)]:=List.take_of_length_le (by rw [h1l];omega)
   rw [ht1,h1l,hsp1,ASt.set_set]
   simp (disch:=first|assumption|omega|(simp only [List.length_append,List.length_cons,List.length_nil];omega)) only [go_sem,hs4,hs1]
   refine cpsC_by (ys:=S) (ASt.set_same _ _ _) (by rw [srcOf_msl ((ASt.set_ne hXb).trans hX) (by omega),hsrc0]) hSv (by omega) ?_
   rw [htk,hSl,hsp2,ASt.set_set]
   simp (disch:=first|assumption|omega|(simp only [List.length_append,List.length_cons,List.length_nil];omega)) only [go_sem]
   exact ret_own (.inr hb') hlen (by omega) hcell (by rw [hlen,List.take_left])
end Go.A
namespace Go.A
open Go.Proofs
/-! 36: slices.Index[[]uint64,uint64] -/
def c36_15:ACode := .seq (.ops [ oq 9 (.bin .lss (.t 8) (.t 7))]) (.seq (.cond (.t 9) .skip (.exit 0)) (.seq (.block 1 (.seq (.ops [ oq 10 (.mv (.t 8)),oq 5 (.mv (.t 10))]) (.seq (.ops [ oq 11 (.mv (.t 1)),oq 12 (.mv (.t 0)),oq 13 (.mv (.t 5)),oq 14 (.ia 1 (.t 12) (.t 13)),oq 15 (.ld none (.t 14)),oq 16 (.bin .eql (.t 11) (.t 15))]) (.cond (.t 16) (.seq (.ops [ oq 17 (.mv (.t 5)),oq 4 (.mv (.t 17))]) .ret) .skip)))) (.ops [ oq 18 (.bin .add (.t 8) (.v (.int .i64 1))),oq 8 (.mv (.t 18))])))
def c36_22:ACode := .seq (.ops [ oq 4 (.mv (.v (.int .i64 0)))]) (.seq (.seq (.ops [ oq 6 (.mv (.t 0)),oq 7 (.len (.t 6)),oq 8 (.mv (.v (.int .i64 0)))]) (.block 0 (.loop c36_15))) (.seq (.ops [ oq 4 (.mv (.v (.int .i64 (-1))))]) .ret))
@[go_sem] def c36_15_wp:=wp_of c36_15.eq_1
@[go_sem] def c36_22_wp:=wp_of c36_22.eq_1
def c36:AFn:=⟨19,[.t 4],c36_22⟩
theorem c36_ok:compF Tryz.prog Tryz.f36=some c36:=by kernel_rfl
theorem a36 {args:List AV} {σ:ASt} {R:AV->ASt->Prop} (hl:args.length<=19) (h:c36_22.wp Tryz.prog (RetQ [.t 4] R) (init args) σ):ACalls Tryz.prog 36 args σ R:=acalls_of Tryz.func36 c36_ok hl h
/-! 58: slices.BinarySearch[[]uint64,uint64] -/
def c58_14:ACode := .seq (.seq (.ops [ oq 13 (.mv (.t 7)),oq 14 (.mv (.t 8)),oq 15 (.bin .lss (.t 13) (.t 14))]) (.cond (.t 15) .skip (.exit 0))) (.block 1 (.seq (.ops [ oq 16 (.mv (.t 7)),oq 17 (.mv (.t 8)),oq 18 (.bin .add (.t 16) (.t 17)),oq 19 (.conv .u64 (.t 18)),oq 20 (.bin .shr (.t 19) (.v (.int .u64 1))),oq 21 (.conv .i64 (.t 20)),oq 9 (.mv (.t 21))]) (.seq (.ops [ oq 22 (.mv (.t 0)),oq 23 (.mv (.t 9)),oq 24 (.ia 1 (.t 22) (.t 23)),oq 25 (.ld none (.t 24)),oq 26 (.mv (.t 1)),oe 27 (.call 87 [(.t 25),(.t 26)])]) (.cond (.t 27) (.ops [ oq 28 (.mv (.t 9)),oq 29 (.bin .add (.t 28) (.v (.int .i64 1))),oq 7 (.mv (.t 29))]) (.ops [ oq 30 (.mv (.t 9)),oq 8 (.mv (.t 30))])))))
def c58_22:ACode := .seq (.ops [ oq 4 (.mv (.v (.int .i64 0))),oq 5 (.mv (.v (.bool false)))]) (.seq (.ops [ oq 10 (.mv (.t 0)),oq 11 (.len (.t 10)),oq 6 (.mv (.t 11))]) (.seq (.ops [ oq 12 (.mv (.t 6)),oq 7 (.mv (.v (.int .i64 0))),oq 8 (.mv (.t 12))]) (.seq (.block 0 (.loop c58_14)) (.seq (.ops [ oq 31 (.mv (.t 7)),oq 32 (.mv (.t 7)),oq 33 (.mv (.t 6)),oq 34 (.bin .lss (.t 32) (.t 33)),oq 35 (.mv (.t 34)),⟨some 36,some (35,true),.q (.mv (.t 0)),[]⟩,⟨some 37,some (35,true),.q (.mv (.t 7)),[]⟩,⟨some 38,some (35,true),.q (.ia 1 (.t 36) (.t 37)),[]⟩,⟨some 39,some (35,true),.q (.ld none (.t 38)),[]⟩,⟨some 40,some (35,true),.q (.mv (.t 1)),[]⟩,⟨some 41,some (35,true),.q (.bin .eql (.t 39) (.t 40)),[]⟩,⟨some 42,some (35,true),.q (.mv (.t 41)),[]⟩,⟨some 43,some (42,false),.q (.mv (.t 0)),[]⟩,⟨some 44,some (42,false),.q (.mv (.t 7)),[]⟩,⟨some 45,some (42,false),.q (.ia 1 (.t 43) (.t 44)),[]⟩,⟨some 46,some (42,false),.q (.ld none (.t 45)),[]⟩,⟨some 47,some (42,false),.e (.call 88 [(.t 46)]),[]⟩,⟨some 48,some (42,false),.q (.mv (.t 47)),[]⟩,⟨some 49,some (48,true),.q (.mv (.t 1)),[]⟩,⟨some 50,some (48,true),.e (.call 88 [(.t 49)]),[]⟩,⟨some 51,some (42,false),.q (.pick (.t 48) (.t 50) (.v (.bool false))),[]⟩,⟨some 52,some (35,true),.q (.pick (.t 42) (.v (.bool true)) (.t 51)),[]⟩,oq 53 (.pick (.t 35) (.t 52) (.v (.bool false))),oq 4 (.mv (.t 31)),oq 5 (.mv (.t 53))]) .ret))))
@[go_sem] def c58_14_wp:=wp_of c58_14.eq_1
@[go_sem] def c58_22_wp:=wp_of c58_22.eq_1
def c58:AFn:=⟨54,[.t 4,.t 5],c58_22⟩
theorem c58_ok:compF Tryz.prog Tryz.f58=some c58:=by kernel_rfl
theorem a58 {args:List AV} {σ:ASt} {R:AV->ASt->Prop} (hl:args.length<=54) (h:c58_22.wp Tryz.prog (RetQ [.t 4,.t 5] R) (init args) σ):ACalls Tryz.prog 58 args σ R:=acalls_of Tryz.func58 c58_ok hl h
/-! 73: slices.Delete[[]uint64,uint64] -/
def c73_17:ACode := .seq (.ops [ oq 6 (.mv (.v (.sl .full [])))]) (.seq (.ops [ oq 8 (.mv (.t 0)),oq 9 (.mv (.t 1)),oq 10 (.mv (.t 2)),oq 11 (.mv (.t 0)),oq 12 (.len (.t 11)),oq 13 (.sl3 1 (.t 8) (.t 9) (.t 10) (.t 12))]) (.seq (.seq (.ops [ oq 14 (.mv (.t 1)),oq 15 (.mv (.t 2)),oq 16 (.bin .eql (.t 14) (.t 15))]) (.cond (.t 16) (.seq (.ops [ oq 17 (.mv (.t 0)),oq 6 (.mv (.t 17))]) .ret) .skip)) (.seq (.ops [ oq 18 (.mv (.t 0)),oq 19 (.len (.t 18)),oq 7 (.mv (.t 19))]) (.seq (.ops [ oq 20 (.mv (.t 0)),oq 21 (.mv (.t 1)),oq 22 (.slto (false,1) (.t 20) (.t 21)),oq 23 (.mv (.t 0)),oq 24 (.mv (.t 2)),oq 25 (.slfrom (false,1) (.t 23) (.t 24)),oe 26 (.app 33 1 8 [(.int .u64 0)] (.t 22) (.t 25)),oq 0 (.mv (.t 26))]) (.seq (.ops [ oq 27 (.mv (.t 0)),oq 28 (.mv (.t 0)),oq 29 (.len (.t 28)),oq 30 (.mv (.t 7)),oq 31 (.sls (false,1) (.t 27) (.t 29) (.t 30)),oz (.clr [(.int .u64 0)] (.t 31))]) (.seq (.ops [ oq 32 (.mv (.t 0)),oq 6 (.mv (.t 32))]) .ret))))))
@[go_sem] def c73_17_wp:=wp_of c73_17.eq_1
def c73:AFn:=⟨33,[.t 6],c73_17⟩
theorem c73_ok:compF Tryz.prog Tryz.f73=some c73:=by kernel_rfl
theorem a73 {args:List AV} {σ:ASt} {R:AV->ASt->Prop} (hl:args.length<=33) (h:c73_17.wp Tryz.prog (RetQ [.t 6] R) (init args) σ):ACalls Tryz.prog 73 args σ R:=acalls_of Tryz.func73 c73_ok hl h
/-! 87: cmp.Less[uint64] -/
def c87_3:ACode := .seq (.ops [ oq 4 (.mv (.v (.bool false)))]) (.seq (.ops [ oq 5 (.mv (.t 0)),oe 6 (.call 108 [(.t 5)]),oq 7 (.mv (.t 6)),⟨some 8,some (7,true),.q (.mv (.t 1)),[]⟩,⟨some 9,some (7,true),.e (.call 108 [(.t 8)]),[]⟩,⟨some 10,some (7,true),.q (.un .not (.t 9)),[]⟩,oq 11 (.pick (.t 7) (.t 10) (.v (.bool false))),oq 12 (.mv (.t 11)),⟨some 13,some (12,false),.q (.mv (.t 0)),[]⟩,⟨some 14,some (12,false),.q (.mv (.t 1)),[]⟩,⟨some 15,some (12,false),.q (.bin .lss (.t 13) (.t 14)),[]⟩,oq 16 (.pick (.t 12) (.v (.bool true)) (.t 15)),oq 4 (.mv (.t 16))]) .ret)
@[go_sem] def c87_3_wp:=wp_of c87_3.eq_1
def c87:AFn:=⟨17,[.t 4],c87_3⟩
theorem c87_ok:compF Tryz.prog Tryz.f87=some c87:=by kernel_rfl
theorem a87 {args:List AV} {σ:ASt} {R:AV->ASt->Prop} (hl:args.length<=17) (h:c87_3.wp Tryz.prog (RetQ [.t 4] R) (init args) σ):ACalls Tryz.prog 87 args σ R:=acalls_of Tryz.func87 c87_ok hl h
/-! 88: slices.isNaN[uint64] -/
def c88_3:ACode := .seq (.ops [ oq 2 (.mv (.v (.bool false)))]) (.seq (.ops [ oq 3 (.mv (.t 0)),oq 4 (.mv (.t 0)),oq 5 (.bin .neq (.t 3) (.t 4)),oq 2 (.mv (.t 5))]) .ret)
@[go_sem] def c88_3_wp:=wp_of c88_3.eq_1
def c88:AFn:=⟨6,[.t 2],c88_3⟩
theorem c88_ok:compF Tryz.prog Tryz.f88=some c88:=by kernel_rfl
theorem a88 {args:List AV} {σ:ASt} {R:AV->ASt->Prop} (hl:args.length<=6) (h:c88_3.wp Tryz.prog (RetQ [.t 2] R) (init args) σ):ACalls Tryz.prog 88 args σ R:=acalls_of Tryz.func88 c88_ok hl h
/-! 92: slices.Clone[[]uint64,uint64] -/
def c92_9:ACode := .seq (.ops [ oq 2 (.mv (.v (.sl .full [])))]) (.seq (.seq (.ops [ oq 3 (.mv (.t 0)),oe 4 (.isn false (.t 3))]) (.cond (.t 4) (.seq (.ops [ oq 2 (.mv (.v (.sl .full [])))]) .ret) .skip)) (.seq (.ops [ oq 5 (.bsl 1 []),oq 6 (.mv (.t 0)),oe 7 (.app 33 1 8 [(.int .u64 0)] (.t 5) (.t 6)),oq 2 (.mv (.t 7))]) .ret))
@[go_sem] def c92_9_wp:=wp_of c92_9.eq_1
def c92:AFn:=⟨8,[.t 2],c92_9⟩
theorem c92_ok:compF Tryz.prog Tryz.f92=some c92:=by kernel_rfl
theorem a92 {args:List AV} {σ:ASt} {R:AV->ASt->Prop} (hl:args.length<=8) (h:c92_9.wp Tryz.prog (RetQ [.t 2] R) (init args) σ):ACalls Tryz.prog 92 args σ R:=acalls_of Tryz.func92 c92_ok hl h
/-! 93: slices.Clone[[]int,int] -/
def c93_9:ACode := .seq (.ops [ oq 2 (.mv (.v (.sl .full [])))]) (.seq (.seq (.ops [ oq 3 (.mv (.t 0)),oe 4 (.isn false (.t 3))]) (.cond (.t 4) (.seq (.ops [ oq 2 (.mv (.v (.sl .full [])))]) .ret) .skip)) (.seq (.ops [ oq 5 (.bsl 1 []),oq 6 (.mv (.t 0)),oe 7 (.app 3 1 8 [(.int .i64 0)] (.t 5) (.t 6)),oq 2 (.mv (.t 7))]) .ret))
@[go_sem] def c93_9_wp:=wp_of c93_9.eq_1
def c93:AFn:=⟨8,[.t 2],c93_9⟩
theorem c93_ok:compF Tryz.prog Tryz.f93=some c93:=by kernel_rfl
theorem a93 {args:List AV} {σ:ASt} {R:AV->ASt->Prop} (hl:args.length<=8) (h:c93_9.wp Tryz.prog (RetQ [.t 2] R) (init args) σ):ACalls Tryz.prog 93 args σ R:=acalls_of Tryz.func93 c93_ok hl h
/-! 108: cmp.isNaN[uint64] -/
def c108_3:ACode := .seq (.ops [ oq 2 (.mv (.v (.bool false)))]) (.seq (.ops [ oq 3 (.mv (.t 0)),oq 4 (.mv (.t 0)),oq 5 (.bin .neq (.t 3) (.t 4)),oq 2 (.mv (.t 5))]) .ret)
@[go_sem] def c108_3_wp:=wp_of c108_3.eq_1
def c108:AFn:=⟨6,[.t 2],c108_3⟩
theorem c108_ok:compF Tryz.prog Tryz.f108=some c108:=by kernel_rfl
theorem a108 {args:List AV} {σ:ASt} {R:AV->ASt->Prop} (hl:args.length<=6) (h:c108_3.wp Tryz.prog (RetQ [.t 2] R) (init args) σ):ACalls Tryz.prog 108 args σ R:=acalls_of Tryz.func108 c108_ok hl h
/-! 115: slices.Delete[[]int,int] -/
def c115_17:ACode := .seq (.ops [ oq 6 (.mv (.v (.sl .full [])))]) (.seq (.ops [ oq 8 (.mv (.t 0)),oq 9 (.mv (.t 1)),oq 10 (.mv (.t 2)),oq 11 (.mv (.t 0)),oq 12 (.len (.t 11)),oq 13 (.sl3 1 (.t 8) (.t 9) (.t 10) (.t 12))]) (.seq (.seq (.ops [ oq 14 (.mv (.t 1)),oq 15 (.mv (.t 2)),oq 16 (.bin .eql (.t 14) (.t 15))]) (.cond (.t 16) (.seq (.ops [ oq 17 (.mv (.t 0)),oq 6 (.mv (.t 17))]) .ret) .skip)) (.seq (.ops [ oq 18 (.mv (.t 0)),oq 19 (.len (.t 18)),oq 7 (.mv (.t 19))]) (.seq (.ops [ oq 20 (.mv (.t 0)),oq 21 (.mv (.t 1)),oq 22 (.slto (false,1) (.t 20) (.t 21)),oq 23 (.mv (.t 0)),oq 24 (.mv (.t 2)),oq 25 (.slfrom (false,1) (.t 23) (.t 24)),oe 26 (.app 3 1 8 [(.int .i64 0)] (.t 22) (.t 25)),oq 0 (.mv (.t 26))]) (.seq (.ops [ oq 27 (.mv (.t 0)),oq 28 (.mv (.t 0)),oq 29 (.len (.t 28)),oq 30 (.mv (.t 7)),oq 31 (.sls (false,1) (.t 27) (.t 29) (.t 30)),oz (.clr [(.int .i64 0)] (.t 31))]) (.seq (.ops [ oq 32 (.mv (.t 0)),oq 6 (.mv (.t 32))]) .ret))))))
@[go_sem] def c115_17_wp:=wp_of c115_17.eq_1
def c115:AFn:=⟨33,[.t 6],c115_17⟩
theorem c115_ok:compF Tryz.prog Tryz.f115=some c115:=by kernel_rfl
theorem a115 {args:List AV} {σ:ASt} {R:AV->ASt->Prop} (hl:args.length<=33) (h:c115_17.wp Tryz.prog (RetQ [.t 6] R) (init args) σ):ACalls Tryz.prog 115 args σ R:=acalls_of Tryz.func115 c115_ok hl h
end Go.A
namespace Go.A
open Go.Proofs
def lowI (l:List Nat) (t:Nat):Nat:=(l.takeWhile fun x=>decide (x<t)).length
theorem lowI_cons (x:Nat) (l:List Nat) (t:Nat):lowI (x::l) t=if x<t then lowI l t+1 else 0:=by
 unfold lowI
 rw [List.takeWhile_cons]
 by_cases h:x<t
 ·simp [h]
 ·simp [h]
theorem lowI_le:∀ (l:List Nat) (t:Nat),lowI l t<=l.length
 | [],_=>Nat.le_refl 0
 | x::l,t=>by
   rw [lowI_cons,List.length_cons]
   have:=lowI_le l t
   split<;>omega
theorem lowI_lt:∀ {l:List Nat} {t h x:Nat},l.Pairwise (· < ·)->l[h]? = some x->x<t->h<lowI l t
 | [],t,h,x,hp,hh,hx=>by simp at hh
 | y::l,t,0,x,hp,hh,hx=>by
   simp at hh;subst hh
   rw [lowI_cons,if_pos hx]
   omega
 | y::l,t,h+1,x,hp,hh,hx=>by
   have hh:l[h]? = some x:=hh
   rw [List.pairwise_cons] at hp
   have hy:=hp.1 x (List.mem_of_getElem? hh)
   rw [lowI_cons,if_pos (by omega)]
   have:=lowI_lt hp.2 hh hx
   omega
theorem lowI_ge:∀ {l:List Nat} {t h x:Nat},l.Pairwise (· < ·)->l[h]? = some x->t<=x->lowI l t<=h
 | [],t,h,x,hp,hh,hx=>by simp at hh
 | y::l,t,0,x,hp,hh,hx=>by
   simp at hh;subst hh
   rw [lowI_cons,if_neg (by omega)]
   exact Nat.le_refl 0
 | y::l,t,h+1,x,hp,hh,hx=>by
   have hh:l[h]? = some x:=hh
   rw [List.pairwise_cons] at hp
   rw [lowI_cons]
   split
   ·have:=lowI_ge hp.2 hh hx
    omega
   ·exact Nat.zero_le _
theorem isnan64_ok (x:Int):Pure Tryz.prog 88 [.int .u64 x] (.bool false):=by
 intro σ
 refine a88 (by simp) ?_
 simp (disch:=first|assumption|omega|(simp only [List.length_append,List.length_cons,List.length_nil];omega)) only [go_sem,eq_self]
 exact retC_by (.refl _) (.refl _) ⟨rfl,rfl⟩
theorem isnanc64_ok (x:Int):Pure Tryz.prog 108 [.int .u64 x] (.bool false):=by
 intro σ
 refine a108 (by simp) ?_
 simp (disch:=first|assumption|omega|(simp only [List.length_append,List.length_cons,List.length_nil];omega)) only [go_sem,eq_self]
 exact retC_by (.refl _) (.refl _) ⟨rfl,rfl⟩
theorem cmpless64_ok (x y:Int):Pure Tryz.prog 87 [.int .u64 x,.int .u64 y] (.bool (decide (x<y))):=by
 intro σ
 refine a87 (by simp) ?_
 simp (disch:=first|assumption|omega|(simp only [List.length_append,List.length_cons,List.length_nil];omega)) only [go_sem]
 refine (isnanc64_ok x).use ?_
 simp (disch:=first|assumption|omega|(simp only [List.length_append,List.length_cons,List.length_nil];omega)) only [go_sem]
 exact retC_by (.refl _) (.refl _) ⟨rfl,rfl⟩
theorem xBin64_ok (k:SK) {l:List Nat} {t:Nat} (hl:l.length<=100000) (hp:l.Pairwise (· < ·)):Pure Tryz.prog 58 [.sl k (kv .u64 l),.int .u64 t] (.tuple [.int .i64 (lowI l t),.bool (decide (l[lowI l t]? = some t))]):=by
 intro σ
 have hle:=lowI_le l t
 have bits:IntKind.bits .u64=64:=rfl
 have e1:(1:Int).toNat=1:=rfl
 have hkl:=kv_len .u64 l
 have hkg:=fun (i n:Nat) (h:l[i]? = some n)=>kv_get (k := .u64) h
 generalize hK:kv .u64 l=KV at *
 refine a58 (by simp) ?_
 simp (disch:=first|assumption|omega|(simp only [List.length_append,List.length_cons,List.length_nil];omega)) only [go_sem,hkl]
 refine wp_loop_on (fun (p:Nat×Nat) a1 s2=>(p.1<=lowI l t/\lowI l t<=p.2/\p.2<=l.length)/\(a1 0 = .sl k KV/\a1 1 = .int .u64 t/\a1 6 = .int .i64 l.length/\a1 7 = .int .i64 p.1/\a1 8 = .int .i64 p.2)/\s2=σ) (fun p=>p.2-p.1) (0,l.length) ⟨⟨Nat.zero_le _,hle,Nat.le_refl _⟩,?_,rfl⟩ ?_
 ·simp (disch:=first|assumption|omega|(simp only [List.length_append,List.length_cons,List.length_nil];omega)) only [go_sem]
 rintro ⟨i,j⟩ a1 s2 ⟨⟨hi,hj,hjn⟩,hf,rfl⟩
 dsimp only at hi hj hjn hf
 by_cases hlt:i<j
 ·have hlt':(i:Int)<(j:Int):=by omega
  obtain ⟨h,hh⟩:∃ h,h=(i+j) / 2:=⟨_,rfl⟩
  have hhn:h<l.length:=by omega
  have e2:((i:Int)+(j:Int)) / 2=(h:Int):=by omega
  obtain ⟨x,hx⟩:∃ x,l[h]? = some x:=⟨_,List.getElem?_eq_getElem hhn⟩
  have hg:=hkg h x hx
  simp (disch:=first|assumption|omega|(simp only [List.length_append,List.length_cons,List.length_nil];omega)) only [go_sem,hf,hlt',bits,e1,e2,hg,Int.toNat_natCast]
  refine (cmpless64_ok _ _).use ?_
  by_cases hc:x<t
  ·have hc':(x:Int)<(t:Int):=by omega
   have:=lowI_lt hp hx hc
   simp (disch:=first|assumption|omega|(simp only [List.length_append,List.length_cons,List.length_nil];omega)) only [go_sem,hf,hc']
   refine ⟨(h+1,j),by dsimp only;omega,⟨by dsimp only;omega,hj,hjn⟩,?_,rfl⟩
   simp (disch:=first|assumption|omega|(simp only [List.length_append,List.length_cons,List.length_nil];omega)) only [go_sem,hf]
  ·have hc':¬ (x:Int)<(t:Int):=by omega
   have:=lowI_ge (t:=t) hp hx (by omega)
   simp (disch:=first|assumption|omega|(simp only [List.length_append,List.length_cons,List.length_nil];omega)) only [go_sem,hf,hc']
   refine ⟨(i,h),by dsimp only;omega,⟨hi,this,by dsimp only;omega⟩,?_,rfl⟩
   simp (disch:=first|assumption|omega|(simp only [List.length_append,List.length_cons,List.length_nil];omega)) only [go_sem,hf]
 ·have hlt':¬ (i:Int)<(j:Int):=by omega
  obtain rfl:i=lowI l t:=by omega
  generalize lowI l t=i at *
  by_cases hin:i<l.length
  ·have hin':(i:Int)<(l.length:Int):=by omega
   obtain ⟨x,hx⟩:∃ x,l[i]? = some x:=⟨_,List.getElem?_eq_getElem hin⟩
   have hg:=hkg i x hx
   rw [hx]
   by_cases hc:x=t
   ·subst hc
    simp (disch:=first|assumption|omega|(simp only [List.length_append,List.length_cons,List.length_nil];omega)) only [go_sem,hf,hlt',hin',hg,Int.toNat_natCast,eq_self]
    exact retC_by (.refl _) (.refl _) ⟨rfl,rfl⟩
   ·have hc':¬ (x:Int)=(t:Int):=by omega
    have hd:decide (some x=some t)=false:=decide_eq_false (by intro h;exact hc (Option.some.inj h))
    rw [hd]
    simp (disch:=first|assumption|omega|(simp only [List.length_append,List.length_cons,List.length_nil];omega)) only [go_sem,hf,hlt',hin',hg,Int.toNat_natCast,hc']
    refine (isnan64_ok _).use ?_
    simp (disch:=first|assumption|omega|(simp only [List.length_append,List.length_cons,List.length_nil];omega)) only [go_sem,hf,hlt',hin',hg,Int.toNat_natCast,hc']
    exact retC_by (.refl _) (.refl _) ⟨rfl,rfl⟩
  ·have hin':¬ (i:Int)<(l.length:Int):=by omega
   rw [List.getElem?_eq_none (by omega)]
   have hd:decide ((none:Option Nat)=some t)=false:=decide_eq_false (by intro h;cases h)
   rw [hd]
   simp (disch:=first|assumption|omega|(simp only [List.length_append,List.length_cons,List.length_nil];omega)) only [go_sem,hf,hlt',hin']
   exact retC_by (.refl _) (.refl _) ⟨rfl,rfl⟩
theorem ret_new {σ:ASt} {Y n c:Nat} {cs xs:List AV} (hY:σ Y=none) (hn:n=xs.length) (hc:n<=c) (h1:∀ x∈xs,x.cells = [x]) (hcs:cs.take n=xs) :
  RetC (some [.msl Y 0 n c]) (fun r σ'=>r = .sl .shr xs/\σ'=σ) (σ.set Y (some (.obj cs))):=by
 have hfl:xs.flatMap AV.cells=xs:=by
  clear hn hcs
  induction xs with
  | nil=>rfl
  | cons x xs ih=>
    rw [List.flatMap_cons,h1 x List.mem_cons_self,ih fun y hy=>h1 y (List.mem_cons_of_mem _ hy)]
    rfl
 exact retC_by (r := .sl .shr xs) (σ':=σ) (Drop.set hY) (.msl (cs:=cs) 0 n c 1 xs (ASt.set_same _ _ _) hY hn hc (fun x hx=>by rw [h1 x hx];rfl) (by rw [hfl,List.drop_zero,Nat.mul_one,hcs])) ⟨rfl,rfl⟩
theorem xIns64_nil {σ:ASt} {v:Nat}:ACalls Tryz.prog 30 [.sl .full [],.int .i64 0,.sl .lit [.int .u64 v]] σ fun r σ'=>r = .sl .shr (kv .u64 [v])/\σ'=σ:=by
 have e1:((0+1:Nat):Int)=1:=rfl
 have h1l : [AV.int .u64 (v:Int)].length=1:=rfl
 refine a30 (by simp) ?_
 simp (disch:=first|assumption|omega|(simp only [List.length_append,List.length_cons,List.length_nil];omega)) only [go_sem,e1]
 refine appO_by rfl rfl rfl (by rw [h1l];decide) (by rw [h1l];decide) (by rw [h1l];decide) fun b c hb hc=>?_
 simp (disch:=first|assumption|omega|(simp only [List.length_append,List.length_cons,List.length_nil];omega)) only [go_sem]
 exact ret_new hb rfl hc (fun x hx=>by rw [List.mem_singleton.1 hx];rfl) rfl
set_option maxHeartbeats 1000000 in
theorem xDel64_ok {σ:ASt} {X c:Nat} {R:List AV} {l:List Nat} {i:Nat} (hX:σ X=some (.obj (kv .u64 l++R))) (hc:l.length<=c) (hi:i<l.length) (hl:l.length<=1000) :
  ACalls Tryz.prog 73 [.msl X 0 l.length c,.int .i64 i,.int .i64 ((i:Int)+1)] σ fun r σ'=>r = .sl .shr (kv .u64 (delL l i))/\σ'=σ.set X none:=by
 have hfin:kv .u64 (delL l i)=kv .u64 (l.take i)++kv .u64 (l.drop (i+1)):=by
  unfold delL
  rw [kv_app]
 have hcell:∀ x∈kv .u64 (delL l i),x.cells = [x]:=fun x hx=>kv_cells hx
 obtain ⟨n,hn⟩:∃ n,n=l.length:=⟨_,rfl⟩
 obtain ⟨P,hP⟩:∃ P,P=kv .u64 (l.take i):=⟨_,rfl⟩
 obtain ⟨S,hS⟩:∃ S,S=kv .u64 (l.drop (i+1)):=⟨_,rfl⟩
 obtain ⟨d0, hd0⟩ : ∃ d0, d0 = AV.int .u64 ((l[i]'hi : Nat) : Int) := ⟨_, rfl⟩
 have hPl:P.length=i:=by rw [hP,kv_len,List.length_take];omega
 have hSl:S.length=n-(i+1):=by rw [hS,kv_len,List.length_drop];omega
 have hSv:leaves S=true:=by rw [hS];exact kv_leaves _ _
 have hsplit:kv .u64 l=P++(d0::S):=by
  rw [hP,hS,hd0,← kv_cons,← kv_app]
  congr 1
  rw [List.getElem_cons_drop,List.take_append_drop]
 rw [hsplit] at hX
 rw [<-hP,← hS] at hfin
 rw [<-hn] at hc hi hl ⊢
 generalize kv .u64 (delL l i)=out at *
 clear hP hS hn hd0 hsplit
 subst hfin
 have hMl:(P++d0::S++R).length=n+R.length:=by simp only [List.length_append,List.length_cons];omega
 have g':¬ (i:Int)=(i:Int)+1:=by omega
 have e1:((i:Int)+1).toNat=i+1:=by omega
 obtain ⟨s3,hs3⟩:∃ s3,sl3V 1 (.msl X 0 n c) (i:Int) ((i:Int)+1) (n:Int)=some s3:=⟨_,sl3V_msl (by omega) (by omega) (by omega) (by omega) (by omega)⟩
 have hs1:slV (false,1) (.msl X 0 n c) 0 (i:Int)=some (.msl X 0 i c):=by
  have:=slV_nat (b:=X) (o:=0) (n:=n) (c:=c) (lo:=0) (hi:=i) (by omega) (by omega) (by omega)
  exact this
 obtain ⟨o2,c2,hs2,hsrc⟩:∃ o2 c2,slV (false,1) (.msl X 0 n c) ((i:Int)+1) (n:Int)=some (.msl X o2 (n-(i+1)) c2)/\srcOf σ (.msl X o2 (n-(i+1)) c2)=some S:=by
  by_cases hic:i+1<c
  ·refine ⟨i+1,c-(i+1),?_,?_⟩
   ·have:=slV_nat (b:=X) (o:=0) (n:=n) (c:=c) (lo:=i+1) (hi:=n) (by omega) hc (by omega)
    rw [Nat.zero_add] at this
    exact this
   ·rw [srcOf_msl hX (by omega)]
    congr 1
    have e:P++d0::S++R=(P ++ [d0])++S++R:=by simp only [List.append_assoc,List.cons_append,List.nil_append]
    rw [e]
    exact mid_get (by rw [List.length_append,hPl];rfl) hSl
  ·have hnc:n-(i+1)=0:=by omega
   refine ⟨0,0,?_,?_⟩
   ·rw [slV_end (by omega) (by omega) (by omega) (by omega),e1,Int.toNat_natCast,hnc]
    have:c-(i+1)=0:=by omega
    rw [this]
   ·rw [hnc,srcOf_msl hX (by omega)]
    have hS0:S = []:=List.eq_nil_of_length_eq_zero (by omega)
    rw [hS0]
    rfl
 obtain ⟨A1,y,hA,hAl⟩:∃ A1 y,d0::S=A1 ++ [y]/\A1.length=n-(i+1):=by
  obtain ⟨y,hy⟩:=List.length_eq_one_iff.1 (show ((d0::S).drop (n-(i+1))).length=1 by rw [List.length_drop,List.length_cons];omega)
  refine ⟨(d0::S).take (n-(i+1)),y,?_,by rw [List.length_take,List.length_cons];omega⟩
  rw [<-hy,List.take_append_drop]
 have hsp1:splice (P++d0::S++R) (0+i) (n-(i+1)) S=(P++S) ++ [y]++R:=by
  have e:P++d0::S++R=P++A1++([y]++R):=by rw [hA];simp only [List.append_assoc]
  rw [e,splice_mid (by omega) hAl]
  simp only [List.append_assoc]
 have hPS:(P++S).length=n-1:=by rw [List.length_append];omega
 have hsp2:splice ((P++S) ++ [y]++R) (n-1) 1 [AV.int .u64 0]=(P++S) ++ [AV.int .u64 0]++R:=splice_mid hPS rfl
 have hin:i+(n-(i+1))=n-1:=by omega
 have hs4:slV (false,1) (.msl X 0 (n-1) c) (((n-1:Nat)):Int) (n:Int)=some (.msl X (n-1) 1 (c-(n-1))):=by
  have:=slV_nat (b:=X) (o:=0) (n:=n-1) (c:=c) (lo:=n-1) (hi:=n) (by omega) hc (by omega)
  rw [Nat.zero_add,show n-(n-1)=1 from by omega] at this
  exact this
 refine a73 (by simp) ?_
 simp (disch:=first|assumption|omega|(simp only [List.length_append,List.length_cons,List.length_nil];omega)) only [go_sem,hs3,g',hs1,hs2]
 refine appN_by hX hsrc hSv (by omega) (by omega) (by omega) (fun hroom=>⟨by omega,?_⟩) (fun hgrow=>absurd hgrow (by omega))
 rw [hsp1,hin]
 simp (disch:=first|assumption|omega|(simp only [List.length_append,List.length_cons,List.length_nil];omega)) only [go_sem,hs4]
 refine clrC_by (ASt.set_same _ _ _) rfl (by simp only [List.length_append,List.length_cons,List.length_nil] at *;omega) ?_
 have hr1:(List.replicate 1 [AV.int .u64 0]).flatten = [AV.int .u64 0]:=rfl
 have hl1:1 * [AV.int .u64 0].length=1:=rfl
 rw [hr1,hl1,hsp2,ASt.set_set]
 simp (disch:=first|assumption|omega|(simp only [List.length_append,List.length_cons,List.length_nil];omega)) only [go_sem]
 exact ret_own (.inl rfl) hPS.symm (by omega) hcell (by rw [List.append_assoc,← hPS,List.take_left])
theorem xClo64_ok (k:SK) {σ:ASt} {l:List Nat} (h0:l ≠ []) (hl:l.length<=1000):ACalls Tryz.prog 92 [.sl k (kv .u64 l)] σ fun r σ'=>r = .sl .shr (kv .u64 l)/\σ'=σ:=by
 have hne:kv .u64 l ≠ []:=by cases l with
  | nil=>exact absurd rfl h0
  | cons x l=>intro h;cases h
 have hkl:=kv_len .u64 l
 have hpos:0<l.length:=List.length_pos_iff.2 h0
 have hi:=fun (neg:Bool) (τ:ASt) (K:AV->ASt->Prop)=>isnC_sl (KK:=K) (σ:=τ) (neg:=neg) (k:=k) hne
 have hw:=kv_well .u64 l
 have hlv:=kv_leaves .u64 l
 have hfl:=kv_flat .u64 l
 have hcell:∀ x∈kv .u64 l,x.cells = [x]:=fun x hx=>kv_cells hx
 generalize kv .u64 l=KV at *
 refine a92 (by simp) ?_
 simp (disch:=first|assumption|omega|(simp only [List.length_append,List.length_cons,List.length_nil];omega)) only [go_sem,hi]
 have z0:([]:List AV).length=0:=rfl
 refine appO_by rfl hw (by rw [hfl];exact hlv) (by rw [z0];omega) (by rw [z0];omega) (by omega) fun b c hb hc=>?_
 rw [z0,Nat.zero_add] at hc ⊢
 rw [hfl]
 unfold ownRow
 simp (disch:=first|assumption|omega|(simp only [List.length_append,List.length_cons,List.length_nil];omega)) only [go_sem]
 exact ret_new hb rfl hc hcell List.take_left
theorem xIdx64_ok (k:SK) {l:List Nat} {i v:Nat} (hl:l.length<=100000) (hi:l[i]? = some v) (hn:∀ j,j<i->l[j]? ≠ some v):Pure Tryz.prog 36 [.sl k (kv .u64 l),.int .u64 v] (.int .i64 i):=by
 intro σ
 have hil:i<l.length:=(List.getElem?_eq_some_iff.1 hi).1
 have hkl:=kv_len .u64 l
 have hkg:=fun (i n:Nat) (h:l[i]? = some n)=>kv_get (k := .u64) h
 generalize kv .u64 l=KV at *
 refine a36 (by simp) ?_
 simp (disch:=first|assumption|omega|(simp only [List.length_append,List.length_cons,List.length_nil];omega)) only [go_sem,hkl]
 refine wp_loop_on (fun (j:Nat) a1 s2=>j<=i/\(a1 0 = .sl k KV/\a1 1 = .int .u64 v/\a1 7 = .int .i64 l.length/\a1 8 = .int .i64 j)/\s2=σ) (fun j=>i+1-j) 0 ⟨Nat.zero_le _,?_,rfl⟩ ?_
 ·simp (disch:=first|assumption|omega|(simp only [List.length_append,List.length_cons,List.length_nil];omega)) only [go_sem]
 rintro j a1 s2 ⟨hj,hf,rfl⟩
 have hlt:(j:Int)<(l.length:Int):=by omega
 obtain ⟨x,hx⟩:∃ x,l[j]? = some x:=⟨_,List.getElem?_eq_getElem (by omega)⟩
 have hg:=hkg j x hx
 by_cases hc:v=x
 ·subst hc
  obtain rfl:j=i:=by
   refine Classical.byContradiction fun he=>?_
   exact hn j (by omega) hx
  simp (disch:=first|assumption|omega|(simp only [List.length_append,List.length_cons,List.length_nil];omega)) only [go_sem,hf,hlt,hg,Int.toNat_natCast,eq_self]
  exact retC_by (.refl _) (.refl _) ⟨rfl,rfl⟩
 ·have hc':¬ (v:Int)=(x:Int):=by omega
  have hji:j≠i:=fun he=>by
   subst he
   rw [hi] at hx
   exact hc (Option.some.inj hx)
  simp (disch:=first|assumption|omega|(simp only [List.length_append,List.length_cons,List.length_nil];omega)) only [go_sem,hf,hlt,hg,Int.toNat_natCast,hc']
  exact ⟨j+1,by omega,by omega,rfl⟩
theorem xInsI_nil {σ:ASt} {v:Nat}:ACalls Tryz.prog 72 [.sl .full [],.int .i64 0,.sl .lit [.int .i64 v]] σ fun r σ'=>r = .sl .shr (kv .i64 [v])/\σ'=σ:=by
 have e1:((0+1:Nat):Int)=1:=rfl
 have h1l : [AV.int .i64 (v:Int)].length=1:=rfl
 refine a72 (by simp) ?_
 simp (disch:=first|assumption|omega|(simp only [List.length_append,List.length_cons,List.length_nil];omega)) only [go_sem,e1]
 refine appO_by rfl rfl rfl (by rw [h1l];decide) (by rw [h1l];decide) (by rw [h1l];decide) fun b c hb hc=>?_
 simp (disch:=first|assumption|omega|(simp only [List.length_append,List.length_cons,List.length_nil];omega)) only [go_sem]
 exact ret_new hb rfl hc (fun x hx=>by rw [List.mem_singleton.1 hx];rfl) rfl
set_option maxHeartbeats 1000000 in
theorem xDelI_ok {σ:ASt} {X c:Nat} {R:List AV} {l:List Nat} {i:Nat} (hX:σ X=some (.obj (kv .i64 l++R))) (hc:l.length<=c) (hi:i<l.length) (hl:l.length<=1000) :
  ACalls Tryz.prog 115 [.msl X 0 l.length c,.int .i64 i,.int .i64 ((i:Int)+1)] σ fun r σ'=>r = .sl .shr (kv .i64 (delL l i))/\σ'=σ.set X none:=by
 have hfin:kv .i64 (delL l i)=kv .i64 (l.take i)++kv .i64 (l.drop (i+1)):=by
  unfold delL
  rw [kv_app]
 have hcell:∀ x∈kv .i64 (delL l i),x.cells = [x]:=fun x hx=>kv_cells hx
 obtain ⟨n,hn⟩:∃ n,n=l.length:=⟨_,rfl⟩
 obtain ⟨P,hP⟩:∃ P,P=kv .i64 (l.take i):=⟨_,rfl⟩
 obtain ⟨S,hS⟩:∃ S,S=kv .i64 (l.drop (i+1)):=⟨_,rfl⟩
 obtain ⟨d0, hd0⟩ : ∃ d0, d0 = AV.int .i64 ((l[i]'hi : Nat) : Int) := ⟨_, rfl⟩
 have hPl:P.length=i:=by rw [hP,kv_len,List.length_take];omega
 have hSl:S.length=n-(i+1):=by rw [hS,kv_len,List.length_drop];omega
 have hSv:leaves S=true:=by rw [hS];exact kv_leaves _ _
 have hsplit:kv .i64 l=P++(d0::S):=by
  rw [hP,hS,hd0,← kv_cons,← kv_app]
  congr 1
  rw [List.getElem_cons_drop,List.take_append_drop]
 rw [hsplit] at hX
 rw [<-hP,← hS] at hfin
 rw [<-hn] at hc hi hl ⊢
 generalize kv .i64 (delL l i)=out at *
 clear hP hS hn hd0 hsplit
 subst hfin
 have hMl:(P++d0::S++R).length=n+R.length:=by simp only [List.length_append,List.length_cons];omega
 have g':¬ (i:Int)=(i:Int)+1:=by omega
 have e1:((i:Int)+1).toNat=i+1:=by omega
 obtain ⟨s3,hs3⟩:∃ s3,sl3V 1 (.msl X 0 n c) (i:Int) ((i:Int)+1) (n:Int)=some s3:=⟨_,sl3V_msl (by omega) (by omega) (by omega) (by omega) (by omega)⟩
 have hs1:slV (false,1) (.msl X 0 n c) 0 (i:Int)=some (.msl X 0 i c):=by
  have:=slV_nat (b:=X) (o:=0) (n:=n) (c:=c) (lo:=0) (hi:=i) (by omega) (by omega) (by omega)
  exact this
 obtain ⟨o2,c2,hs2,hsrc⟩:∃ o2 c2,slV (false,1) (.msl X 0 n c) ((i:Int)+1) (n:Int)=some (.msl X o2 (n-(i+1)) c2)/\srcOf σ (.msl X o2 (n-(i+1)) c2)=some S:=by
  by_cases hic:i+1<c
  ·refine ⟨i+1,c-(i+1),?_,?_⟩
   ·have:=slV_nat (b:=X) (o:=0) (n:=n) (c:=c) (lo:=i+1) (hi:=n) (by omega) hc (by omega)
    rw [Nat.zero_add] at this
    exact this
   ·rw [srcOf_msl hX (by omega)]
    congr 1
    have e:P++d0::S++R=(P ++ [d0])++S++R:=by simp only [List.append_assoc,List.cons_append,List.nil_append]
    rw [e]
    exact mid_get (by rw [List.length_append,hPl];rfl) hSl
  ·have hnc:n-(i+1)=0:=by omega
   refine ⟨0,0,?_,?_⟩
   ·rw [slV_end (by omega) (by omega) (by omega) (by omega),e1,Int.toNat_natCast,hnc]
    have:c-(i+1)=0:=by omega
    rw [this]
   ·rw [hnc,srcOf_msl hX (by omega)]
    have hS0:S = []:=List.eq_nil_of_length_eq_zero (by omega)
    rw [hS0]
    rfl
 obtain ⟨A1,y,hA,hAl⟩:∃ A1 y,d0::S=A1 ++ [y]/\A1.length=n-(i+1):=by
  obtain ⟨y,hy⟩:=List.length_eq_one_iff.1 (show ((d0::S).drop (n-(i+1))).length=1 by rw [List.length_drop,List.length_cons];omega)
  refine ⟨(d0::S).take (n-(i+1)),y,?_,by rw [List.length_take,List.length_cons];omega⟩
  rw [<-hy,List.take_append_drop]
 have hsp1:splice (P++d0::S++R) (0+i) (n-(i+1)) S=(P++S) ++ [y]++R:=by
  have e:P++d0::S++R=P++A1++([y]++R):=by rw [hA];simp only [List.append_assoc]
  rw [e,splice_mid (by omega) hAl]
  simp only [List.append_assoc]
 have hPS:(P++S).length=n-1:=by rw [List.length_append];omega
 have hsp2:splice ((P++S) ++ [y]++R) (n-1) 1 [AV.int .i64 0]=(P++S) ++ [AV.int .i64 0]++R:=splice_mid hPS rfl
 have hin:i+(n-(i+1))=n-1:=by omega
 have hs4:slV (false,1) (.msl X 0 (n-1) c) (((n-1:Nat)):Int) (n:Int)=some (.msl X (n-1) 1 (c-(n-1))):=by
  have:=slV_nat (b:=X) (o:=0) (n:=n-1) (c:=c) (lo:=n-1) (hi:=n) (by omega) hc (by omega)
  rw [Nat.zero_add,show n-(n-1)=1 from by omega] at this
  exact this
 refine a115 (by simp) ?_
 simp (disch:=first|assumption|omega|(simp only [List.length_append,List.length_cons,List.length_nil];omega)) only [go_sem,hs3,g',hs1,hs2]
 refine appN_by hX hsrc hSv (by omega) (by omega) (by omega) (fun hroom=>⟨by omega,?_⟩) (fun hgrow=>absurd hgrow (by omega))
 rw [hsp1,hin]
 simp (disch:=first|assumption|omega|(simp only [List.length_append,List.length_cons,List.length_nil];omega)) only [go_sem,hs4]
 refine clrC_by (ASt.set_same _ _ _) rfl (by simp only [List.length_append,List.length_cons,List.length_nil] at *;omega) ?_
 have hr1:(List.replicate 1 [AV.int .i64 0]).flatten = [AV.int .i64 0]:=rfl
 have hl1:1 * [AV.int .i64 0].length=1:=rfl
 rw [hr1,hl1,hsp2,ASt.set_set]
 simp (disch:=first|assumption|omega|(simp only [List.length_append,List.length_cons,List.length_nil];omega)) only [go_sem]
 exact ret_own (.inl rfl) hPS.symm (by omega) hcell (by rw [List.append_assoc,← hPS,List.take_left])
theorem xCloI_nil {σ:ASt}:ACalls Tryz.prog 93 [.sl .full []] σ fun r σ'=>r = .sl .full []/\σ'=σ:=by
 refine a93 (by simp) ?_
 simp (disch:=first|assumption|omega|(simp only [List.length_append,List.length_cons,List.length_nil];omega)) only [go_sem]
 refine isnC_nil ?_ ?_
 ·simp (disch:=first|assumption|omega|(simp only [List.length_append,List.length_cons,List.length_nil];omega)) only [go_sem]
  exact retC_by (.refl _) (.refl _) ⟨rfl,rfl⟩
 ·simp (disch:=first|assumption|omega|(simp only [List.length_append,List.length_cons,List.length_nil];omega)) only [go_sem]
  refine app0_by rfl (by decide) (by decide) ?_
  simp (disch:=first|assumption|omega|(simp only [List.length_append,List.length_cons,List.length_nil];omega)) only [go_sem]
  exact retC_by (.refl _) (.refl _) ⟨rfl,rfl⟩
theorem xIdxI_ok (k:SK) {l:List Nat} {i v:Nat} (hl:l.length<=100000) (hi:l[i]? = some v) (hn:∀ j,j<i->l[j]? ≠ some v):Pure Tryz.prog 37 [.sl k (kv .i64 l),.int .i64 v] (.int .i64 i):=by
 intro σ
 have hil:i<l.length:=(List.getElem?_eq_some_iff.1 hi).1
 have hkl:=kv_len .i64 l
 have hkg:=fun (i n:Nat) (h:l[i]? = some n)=>kv_get (k := .i64) h
 generalize kv .i64 l=KV at *
 refine a37 (by simp) ?_
 simp (disch:=first|assumption|omega|(simp only [List.length_append,List.length_cons,List.length_nil];omega)) only [go_sem,hkl]
 refine wp_loop_on (fun (j:Nat) a1 s2=>j<=i/\(a1 0 = .sl k KV/\a1 1 = .int .i64 v/\a1 7 = .int .i64 l.length/\a1 8 = .int .i64 j)/\s2=σ) (fun j=>i+1-j) 0 ⟨Nat.zero_le _,?_,rfl⟩ ?_
 ·simp (disch:=first|assumption|omega|(simp only [List.length_append,List.length_cons,List.length_nil];omega)) only [go_sem]
 rintro j a1 s2 ⟨hj,hf,rfl⟩
 have hlt:(j:Int)<(l.length:Int):=by omega
 obtain ⟨x,hx⟩:∃ x,l[j]? = some x:=⟨_,List.getElem?_eq_getElem (by omega)⟩
 have hg:=hkg j x hx
 by_cases hc:v=x
 ·subst hc
  obtain rfl:j=i:=by
   refine Classical.byContradiction fun he=>?_
   exact hn j (by omega) hx
  simp (disch:=first|assumption|omega|(simp only [List.length_append,List.length_cons,List.length_nil];omega)) only [go_sem,hf,hlt,hg,Int.toNat_natCast,eq_self]
  exact retC_by (.refl _) (.refl _) ⟨rfl,rfl⟩
 ·have hc':¬ (v:Int)=(x:Int):=by omega
  have hji:j≠i:=fun he=>by
   subst he
   rw [hi] at hx
   exact hc (Option.some.inj hx)
  simp (disch:=first|assumption|omega|(simp only [List.length_append,List.length_cons,List.length_nil];omega)) only [go_sem,hf,hlt,hg,Int.toNat_natCast,hc']
  exact ⟨j+1,by omega,by omega,rfl⟩
end Go.A
namespace Go.A
open Go.Proofs
/-! 55: tabular/vint.PutU64 -/
def c55_2:ACode := .seq (.ops [ oq 4 (.mv (.t 0)),oq 5 (.mv (.t 1)),oq 6 (.conv .u32 (.t 5)),oe 7 (.call 25 [(.t 4),(.t 6)])]) (.ops [ oq 8 (.mv (.t 0)),oq 9 (.slfrom (false,1) (.t 8) (.v (.int .i64 4))),oq 10 (.mv (.t 1)),oq 11 (.bin .shr (.t 10) (.v (.int .u64 32))),oq 12 (.conv .u32 (.t 11)),oe 13 (.call 25 [(.t 9),(.t 12)])])
@[go_sem] def c55_2_wp:=wp_of c55_2.eq_1
def c55:AFn:=⟨14,[],c55_2⟩
theorem c55_ok:compF Tryz.prog Tryz.f55=some c55:=by kernel_rfl
theorem a55 {args:List AV} {σ:ASt} {R:AV->ASt->Prop} (hl:args.length<=14) (h:c55_2.wp Tryz.prog (RetQ [] R) (init args) σ):ACalls Tryz.prog 55 args σ R:=acalls_of Tryz.func55 c55_ok hl h
/-! 103: tabular/vint.U64 -/
def c103_3:ACode := .seq (.ops [ oq 2 (.mv (.v (.int .u64 0)))]) (.seq (.ops [ oq 3 (.mv (.t 0)),oq 6 (.mv (.t 0)),oq 7 (.slfrom (false,1) (.t 6) (.v (.int .i64 4))),oe 4 (.call 102 [(.t 3)]),oq 5 (.conv .u64 (.t 4)),oe 8 (.call 102 [(.t 7)]),oq 9 (.conv .u64 (.t 8)),oq 10 (.bin .shl (.t 9) (.v (.int .u64 32))),oq 11 (.bin .or (.t 5) (.t 10)),oq 2 (.mv (.t 11))]) .ret)
@[go_sem] def c103_3_wp:=wp_of c103_3.eq_1
def c103:AFn:=⟨12,[.t 2],c103_3⟩
theorem c103_ok:compF Tryz.prog Tryz.f103=some c103:=by kernel_rfl
theorem a103 {args:List AV} {σ:ASt} {R:AV->ASt->Prop} (hl:args.length<=12) (h:c103_3.wp Tryz.prog (RetQ [.t 2] R) (init args) σ):ACalls Tryz.prog 103 args σ R:=acalls_of Tryz.func103 c103_ok hl h
end Go.A
namespace Go.A
open Go.Proofs
def le64 (v:Nat):List UInt8:=le32 (v % 4294967296)++le32 (v / 4294967296)
theorem le64_len (v:Nat):(le64 v).length=8:=rfl
def bat (b:List UInt8) (o n:Nat):List UInt8:=(b.drop o).take n
theorem spl_get {α:Type} {b ys:List α} {o:Nat} (h:o+ys.length<=b.length) (j:Nat):(spl b o ys)[j]? = if j<o then b[j]? else if j<o+ys.length then ys[j-o]? else b[j]? := by
 unfold spl
 have h1:(b.take o).length=o:=by rw [List.length_take];omega
 by_cases hj:j<o
 ·rw [if_pos hj,List.append_assoc,List.getElem?_append_left (by omega),List.getElem?_take,if_pos hj]
 ·rw [if_neg hj]
  by_cases hj2:j<o+ys.length
  ·rw [if_pos hj2,List.append_assoc,List.getElem?_append_right (by omega),List.getElem?_append_left (by omega),h1]
  ·rw [if_neg hj2,List.getElem?_append_right (by rw [List.length_append];omega),List.getElem?_drop,List.length_append,h1]
   congr 1
   omega
theorem bat_get (b:List UInt8) (o n j:Nat):(bat b o n)[j]? = if j<n then b[o+j]? else none:=by
 unfold bat
 rw [List.getElem?_take]
 split
 ·rw [List.getElem?_drop]
 ·rfl
theorem bat_same {b ys:List UInt8} {o:Nat} (h:o+ys.length<=b.length):bat (spl b o ys) o ys.length=ys:=by
 refine List.ext_getElem? fun j=>?_
 rw [bat_get]
 by_cases hj:j<ys.length
 ·rw [if_pos hj,spl_get h,if_neg (by omega),if_pos (by omega)]
  congr 1
  omega
 ·rw [if_neg hj,List.getElem?_eq_none (by omega)]
theorem bat_else {b ys:List UInt8} {o o' n':Nat} (h:o+ys.length<=b.length) (hd:o'+n'<=o\/o+ys.length<=o'):bat (spl b o ys) o' n'=bat b o' n':=by
 refine List.ext_getElem? fun j=>?_
 rw [bat_get,bat_get]
 by_cases hj:j<n'
 ·rw [if_pos hj,if_pos hj,spl_get h]
  by_cases h1:o'+j<o
  ·rw [if_pos h1]
  ·rw [if_neg h1,if_neg (by omega)]
 ·rw [if_neg hj,if_neg hj]
theorem get_else {b ys:List UInt8} {o j:Nat} (h:o+ys.length<=b.length) (hd:j<o\/o+ys.length<=j):(spl b o ys)[j]? = b[j]? := by
 rw [spl_get h]
 by_cases h1:j<o
 ·rw [if_pos h1]
 ·rw [if_neg h1,if_neg (by omega)]
theorem get_same {b:List UInt8} {o:Nat} {y:UInt8} (h:o+1<=b.length):(spl b o [y])[o]? = some y:=by
 rw [spl_get (by simpa using h),if_neg (by omega),if_pos (by simp)]
 simp
theorem spl_bytes (b ys:List UInt8) (o:Nat):spl (bytesAV b) o (bytesAV ys)=bytesAV (spl b o ys):=by
 unfold spl
 rw [kbytes_len,bytes_take,bytes_drop,kbytes_app,kbytes_app]
theorem bat_bytes (b:List UInt8) (o n:Nat):((bytesAV b).drop o).take n=bytesAV (bat b o n):=by
 unfold bat
 rw [bytes_drop,bytes_take]
theorem put_byte {b:List UInt8} {o:Nat} (y:UInt8):(bytesAV b).take o ++ [AV.int .u8 y.toNat]++(bytesAV b).drop (o+1)=bytesAV (spl b o [y]):=by
 rw [<-spl_bytes]
 rfl
theorem bat_sub {b:List UInt8} {o n o2 n2:Nat} (h:o2+n2<=n):bat (bat b o n) o2 n2=bat b (o+o2) n2:=by
 refine List.ext_getElem? fun j=>?_
 rw [bat_get (bat b o n),bat_get b (o+o2)]
 by_cases hj:j<n2
 ·rw [if_pos hj,if_pos hj,bat_get,if_pos (by omega)]
  congr 1
  omega
 ·rw [if_neg hj,if_neg hj]
theorem le64_lo (v:Nat):bat (le64 v) 0 4=le32 (v % 4294967296):=rfl
theorem le64_hi (v:Nat):bat (le64 v) 4 4=le32 (v / 4294967296):=rfl
section
variable {σ:ASt} {B o n c v:Nat} {b:List UInt8}
theorem mput32_ok (hB:σ B=some (.obj (bytesAV b))) (ho:o+4<=b.length) (hn:4<=n) (hv:v<4294967296) :
  ACalls Tryz.prog 25 [.msl B o n c,.int .u32 v] σ fun r σ'=>r = .tuple []/\σ'=σ.set B (some (.obj (bytesAV (spl b o (le32 v))))):=by
 have:=putU32_ok (c:=c) hB (o:=o) (n:=n) (by rw [kbytes_len];exact ho) hn hv
 rw [spl_bytes] at this
 exact this
theorem spl_two {b x y:List UInt8} {o:Nat} (h:o+x.length+y.length<=b.length):spl (spl b o x) (o+x.length) y=spl b o (x++y):=by
 refine List.ext_getElem? fun j=>?_
 rw [spl_get (by rw [spl_len (by omega)];exact h),spl_get (by omega),spl_get (by rw [List.length_append];omega),List.length_append]
 by_cases h1:j<o
 ·rw [if_pos (by omega),if_pos h1,if_pos h1]
 ·by_cases h2:j<o+x.length
  ·rw [if_pos h2,if_neg h1,if_pos h2,if_neg h1,if_pos (by omega),List.getElem?_append_left (by omega)]
  ·rw [if_neg h2]
   by_cases h3:j<o+x.length+y.length
   ·rw [if_pos h3,if_neg h1,if_pos (by omega),List.getElem?_append_right (by omega)]
    congr 1
    omega
   ·rw [if_neg h3,if_neg h1,if_neg h2,if_neg h1,if_neg (by omega)]
theorem mput64_ok (hB:σ B=some (.obj (bytesAV b))) (ho:o+8<=b.length) (hn:8<=n) (hc:n<=c) (hv:v<18446744073709551616) :
  ACalls Tryz.prog 55 [.msl B o n c,.int .u64 v] σ fun r σ'=>r = .tuple []/\σ'=σ.set B (some (.obj (bytesAV (spl b o (le64 v))))):=by
 have h1:=mput32_ok (c:=c) (n:=n) (o:=o) (v:=v % 4294967296) hB (by omega) (by omega) (by omega)
 have h2:=mput32_ok (σ:=σ.set B (some (.obj (bytesAV (spl b o (le32 (v % 4294967296))))))) (B:=B) (o:=o+4) (c:=c-4) (n:=n-4) (v:=v / 4294967296) (b:=spl b o (le32 (v % 4294967296))) (ASt.set_same _ _ _) (by rw [spl_len (by rw [le32_len];omega)];omega) (by omega) (by omega)
 have e:spl (spl b o (le32 (v % 4294967296))) (o+4) (le32 (v / 4294967296))=spl b o (le64 v):=spl_two (by rw [le32_len,le32_len];omega)
 rw [e,ASt.set_set] at h2
 have bits:IntKind.bits .u64=64:=rfl
 have e32:(32:Int).toNat=32:=rfl
 have e4:(4:Int).toNat=4:=rfl
 have w1:IntKind.wrap .u32 (v:Int)=((v % 4294967296:Nat):Int):=by rw [wrap_u32'];rfl
 have w2:(v:Int) / 4294967296=((v / 4294967296:Nat):Int):=rfl
 have p32:(2:Int) ^ 32=4294967296:=rfl
 have hs:slV (false,1) (.msl B o n c) 4 (n:Int)=some (.msl B (o+4) (n-4) (c-4)):=slV_nat (lo:=4) (by omega) hc (by omega)
 have hvd:v / 4294967296<4294967296:=by omega
 refine a55 (by simp) ?_
 simp (disch:=first|assumption|omega|(simp only [List.length_append,List.length_cons,List.length_nil];omega)) only [go_sem,w1]
 refine h1.mono ?_
 rintro r σ1 ⟨rfl,rfl⟩
 simp (disch:=first|assumption|omega|(simp only [List.length_append,List.length_cons,List.length_nil];omega)) only [go_sem,hs,bits,e32,p32,w2]
 refine h2.mono ?_
 rintro r σ1 ⟨rfl,rfl⟩
 simp (disch:=first|assumption|omega|(simp only [List.length_append,List.length_cons,List.length_nil];omega)) only [go_sem]
 exact retC_by (.refl _) (.refl _) ⟨rfl,rfl⟩
theorem mu32_ok (hB:σ B=some (.obj (bytesAV b))) (ho:bat b o 4=le32 v) (hn:4<=n) (hv:v<4294967296):ACalls Tryz.prog 102 [.msl B o n c] σ fun r σ'=>r = .int .u32 v/\σ'=σ:=by
 have:=u32m_ok (s:=le32 v) (c:=c) (n:=n) (le32_len v) hB (by rw [bat_bytes,ho]) hn
 rw [of_le32 hv] at this
 exact this
theorem mu64_ok (hB:σ B=some (.obj (bytesAV b))) (ho:bat b o 8=le64 v) (hn:8<=n) (hc:n<=c) (hv:v<18446744073709551616):ACalls Tryz.prog 103 [.msl B o n c] σ fun r σ'=>r = .int .u64 v/\σ'=σ:=by
 have b1:bat b o 4=le32 (v % 4294967296):=by
  have:=bat_sub (b:=b) (o:=o) (n:=8) (o2:=0) (n2:=4) (by omega)
  rw [ho,le64_lo] at this
  exact this.symm
 have b2:bat b (o+4) 4=le32 (v / 4294967296):=by
  have:=bat_sub (b:=b) (o:=o) (n:=8) (o2:=4) (n2:=4) (by omega)
  rw [ho,le64_hi] at this
  exact this.symm
 have h1:=mu32_ok (c:=c) (n:=n) hB b1 (by omega) (by omega)
 have h2:=mu32_ok (c:=c-4) (n:=n-4) hB b2 (by omega) (by omega)
 have hs:slV (false,1) (.msl B o n c) 4 (n:Int)=some (.msl B (o+4) (n-4) (c-4)):=slV_nat (lo:=4) (by omega) hc (by omega)
 have bits:IntKind.bits .u64=64:=rfl
 have e32:(32:Int).toNat=32:=rfl
 obtain ⟨lo,hlo⟩:∃ lo,lo=v % 4294967296:=⟨_,rfl⟩
 obtain ⟨hi,hhi⟩:∃ hi,hi=v / 4294967296:=⟨_,rfl⟩
 rw [<-hlo] at h1
 rw [<-hhi] at h2
 have l1:lo<4294967296:=by omega
 have l2:hi<4294967296:=by omega
 have hve:lo+hi*4294967296=v:=by omega
 obtain ⟨H,hH⟩:∃ H,H=hi*4294967296:=⟨_,rfl⟩
 have m1:(hi:Int)*4294967296=(H:Int):=by omega
 have hHl:H<=18446744073709551615:=by omega
 have p32:(2:Int) ^ 32=4294967296:=rfl
 have ho64:binI .or .u64 (lo:Int) (H:Int)=some (.int .u64 (v:Int)):=by
  have e1:(BitVec.ofInt 64 (lo:Int) ||| BitVec.ofInt 64 (H:Int)).toNat=lo ||| H:=by
   rw [BitVec.toNat_or,BitVec.toNat_ofInt,BitVec.toNat_ofInt]
   congr 1
   ·omega
   ·omega
  have e2:lo ||| H=lo+H:=by rw [hH];exact or_add (k:=32) (by omega)
  show some (AV.int .u64 (IntKind.wrap .u64 _))=_
  rw [bits,e1,e2,wrap_u64 (by omega) (by omega)]
  congr 2
  omega
 refine a103 (by simp) ?_
 simp (disch:=first|assumption|omega|(simp only [List.length_append,List.length_cons,List.length_nil];omega)) only [go_sem]
 refine h1.mono ?_
 rintro r σ1 ⟨rfl,rfl⟩
 simp (disch:=first|assumption|omega|(simp only [List.length_append,List.length_cons,List.length_nil];omega)) only [go_sem,hs]
 refine h2.mono ?_
 rintro r σ1 ⟨rfl,rfl⟩
 simp (disch:=first|assumption|omega|(simp only [List.length_append,List.length_cons,List.length_nil];omega)) only [go_sem,bits,e32,p32,m1,ho64]
 exact retC_by (.refl _) (.refl _) ⟨rfl,rfl⟩
end
end Go.A
namespace Go.A
open Go.Proofs
def blkV:AV->Option Nat
 | .msl b _ _ _=>some b
 | _=>none
def OwnR (σ0 σ:ASt) (k:IntKind) (v:AV) (l:List Nat):Prop:=
 (v = .sl .full []/\l = [])\/∃ X c R,v = .msl X 0 l.length c/\σ X=some (.obj (kv k l++R))/\σ0 X=none/\l.length<=c/\c<=l.length+R.length/\leaves R=true
section
variable {σ0 σ:ASt} {k:IntKind} {v:AV} {l:List Nat}
theorem OwnR.nil (σ0 σ:ASt) (k:IntKind):OwnR σ0 σ k (.sl .full []) [] := .inl ⟨rfl,rfl⟩
theorem OwnR.mono (h:OwnR σ0 σ k v l) {σ':ASt} (hs:∀ X r,blkV v=some X->σ X=some r->σ' X=some r):OwnR σ0 σ' k v l:=by
 rcases h with h|⟨X,c,R,rfl,h1,h2⟩
 ·exact .inl h
 ·exact .inr ⟨X,c,R,rfl,hs X _ rfl h1,h2⟩
theorem OwnR.set (h:OwnR σ0 σ k v l) {X:Nat} {r:Option Role} (hX:blkV v≠some X):OwnR σ0 (σ.set X r) k v l:=
 h.mono fun Y q hY hq=>by rw [ASt.set_ne (fun e=>hX (by rw [hY,e]))];exact hq
theorem OwnR.blk (h:OwnR σ0 σ k v l) {X:Nat} (hX:blkV v=some X):(∃ cs,σ X=some (.obj cs))/\σ0 X=none:=by
 rcases h with ⟨rfl,_⟩|⟨Y,c,R,rfl,h1,h2,_⟩
 ·cases hX
 ·injection hX with hX;subst hX
  exact ⟨⟨_,h1⟩,h2⟩
theorem OwnR.app (h:OwnR σ0 σ k v l) (h0:∀ x,σ x=none->σ0 x=none) (hl:l.length<=10000) {e:TypeId} {kl:SK} {x:Nat} {z:Int} {K:AV->ASt->Prop}
  (hK:∀ v' X r,blkV v'=some X->(blkV v=some X\/σ X=none)->OwnR σ0 (σ.set X (some r)) k v' (l ++ [x])->K v' (σ.set X (some r))):appC e 1 8 [.int k z] v (.sl kl [.int k x]) σ K:=by
 have hfl : [AV.int k (x:Int)].flatMap AV.cells = [AV.int k (x:Int)]:=rfl
 have h1l : [AV.int k (x:Int)].length=1:=rfl
 have hkx:kv k (l ++ [x])=kv k l ++ [.int k x]:=by rw [kv_app];rfl
 have hll:(l ++ [x]).length=l.length+1:=by rw [List.length_append];rfl
 have hrow:∀ (cs:List AV) n c,ownRow 1 [AV.int k z] cs n c=cs++(List.range ((c-n)*1)).map fun i => [AV.int k z].getD (i % 1) .any:=fun cs n c=>rfl
 have hz:∀ m,leaves ((List.range m).map fun i => [AV.int k z].getD (i % 1) .any)=true:=fun m=>by
  have hh:∀ (L:List Nat),leaves (L.map fun i => [AV.int k z].getD (i % 1) .any)=true:=by
   intro L
   induction L with
   | nil=>rfl
   | cons a L ih=>
     rw [List.map_cons,leaves_cons,ih,Nat.mod_one]
     rfl
  exact hh _
 rcases h with ⟨rfl,rfl⟩|⟨X,c,R,rfl,h1,h2,h3,h4,h5⟩
 ·refine appO_by rfl rfl rfl (by rw [h1l];decide) (by rw [h1l];decide) (by rw [h1l];decide) fun b c hb hc=>?_
  have hc:1<=c:=hc
  refine hK _ b _ rfl (.inr hb) (.inr ⟨b,c,(List.range ((c-1)*1)).map fun i => [AV.int k z].getD (i % 1) .any,rfl,?_,h0 b hb,hc,?_,hz _⟩)
  ·rw [ASt.set_same];rfl
  ·rw [List.length_map,List.length_range,List.nil_append]
   show c<=1+(c-1)*1
   omega
 ·rw [appC_msl,h1]
  have hml:(kv k l++R).length=l.length+R.length:=by rw [List.length_append,kv_len]
  refine appM_by rfl rfl (by rw [h1l];omega) (by rw [h1l];omega) (by omega) (fun hroom=>⟨by rw [h1l] at hroom ⊢;omega,?_⟩) (fun hgrow b' c' hb' hc'=>?_)
  ·rw [h1l] at hroom ⊢
   obtain ⟨r0,R',rfl⟩:∃ r0 R',R=r0::R':=by
    cases R with
    | nil=>simp only [List.length_nil] at h4;omega
    | cons r0 R'=>exact ⟨r0,R',rfl⟩
   have hs:splice (kv k l++r0::R') (0+l.length*1) (1*1) ([AV.int k (x:Int)].flatMap AV.cells)=kv k (l ++ [x])++R':=by
    have e:kv k l++r0::R'=kv k l ++ [r0]++R':=by simp only [List.append_assoc,List.cons_append,List.nil_append]
    rw [e,hfl,splice_mid (A:=kv k l) (B := [r0]) (C:=R') (o:=0+l.length*1) (n:=1*1) (by rw [kv_len];omega) rfl,hkx]
   rw [hs]
   rw [leaves_cons,Bool.and_eq_true] at h5
   refine hK _ X _ rfl (.inl rfl) (.inr ⟨X,c,R',by rw [hll],ASt.set_same _ _ _,h2,by omega,?_,h5.2⟩)
   rw [hll]
   simp only [List.length_cons] at h4
   omega
  ·rw [h1l] at hgrow hc' ⊢
   have ht:((kv k l++R).drop 0).take (l.length*1)=kv k l:=by rw [List.drop_zero,Nat.mul_one,← kv_len k l,List.take_left]
   rw [ht,hfl,hrow,← hkx]
   refine hK _ b' _ rfl (.inr hb') (.inr ⟨b',c',(List.range ((c'-(l.length+1))*1)).map fun i => [AV.int k z].getD (i % 1) .any,by rw [hll],ASt.set_same _ _ _,h0 b' hb',by omega,?_,hz _⟩)
   rw [hll,List.length_map,List.length_range]
   omega
theorem OwnR.look (h:OwnR σ0 σ k v l) {σ':ASt} (hn:∀ X,blkV v=some X->σ' X=none):∃ kk,Fz σ σ' v (.sl kk (kv k l)):=by
 rcases h with ⟨rfl,rfl⟩|⟨X,c,R,rfl,h1,h2,h3,h4,h5⟩
 ·exact ⟨.full,.refl _⟩
 ·refine ⟨.shr,.msl (cs:=kv k l++R) 0 l.length c 1 (kv k l) h1 (hn X rfl) (kv_len k l).symm h3 (fun x hx=>by rw [kv_cells hx];rfl) ?_⟩
  rw [kv_flat,List.drop_zero,Nat.mul_one,← kv_len k l,List.take_left]
theorem OwnR.get (h:OwnR σ0 σ k v l) {i n:Nat} (hi:l[i]? = some n):∃ X c R,v = .msl X 0 l.length c/\σ X=some (.obj (kv k l++R))/\(kv k l++R)[i]? = some (.int k n):=by
 rcases h with ⟨rfl,rfl⟩|⟨X,c,R,rfl,h1,h2,h3,h4,h5⟩
 ·simp at hi
 ·exact ⟨X,c,R,rfl,h1,kv_get' hi⟩
theorem OwnR.cell (h:OwnR σ0 σ k v l):v.cells = [v]/\v.leaf=true/\v.isAny=false:=by
 rcases h with ⟨rfl,rfl⟩|⟨X,c,R,rfl,_⟩<;>exact ⟨rfl,rfl,rfl⟩
theorem OwnR.len (h:OwnR σ0 σ k v l):lenC v=some (.int .i64 l.length):=by
 rcases h with ⟨rfl,rfl⟩|⟨X,c,R,rfl,_⟩<;>rfl
end
def lessB (σ:ASt) (v:AV):ASt:=match blkV v with
 | some X=>σ.set X none
 | none=>σ
theorem lessB_eq {σ:ASt} {v:AV} {x:Nat} (h:blkV v≠some x):lessB σ v x=σ x:=by
 unfold lessB
 cases hb:blkV v with
 | none=>rfl
 | some X=>exact ASt.set_ne fun e=>h (by rw [hb,e])
theorem lessB_no {σ:ASt} {v:AV} {x:Nat} (h:blkV v=some x):lessB σ v x=none:=by
 unfold lessB
 rw [h]
 exact ASt.set_same _ _ _
theorem OwnR.ins64 {σ0 σ:ASt} {v:AV} {l:List Nat} (h:OwnR σ0 σ .u64 v l) {i x:Nat} (hi:i<=l.length) (hl:l.length<=1000) :
  ACalls Tryz.prog 30 [v,.int .i64 i,.sl .lit [.int .u64 x]] σ fun r σ'=>r = .sl .shr (kv .u64 (insL l i x))/\σ'=lessB σ v:=by
 rcases h with ⟨rfl,rfl⟩|⟨X,c,R,rfl,h1,h2,h3,h4,h5⟩
 ·obtain rfl:i=0:=Nat.le_zero.1 hi
  exact xIns64_nil
 ·exact xIns64_ok h1 h3 h4 h5 hi hl
theorem OwnR.insI {σ0 σ:ASt} {v:AV} {l:List Nat} (h:OwnR σ0 σ .i64 v l) {i x:Nat} (hi:i<=l.length) (hl:l.length<=1000) :
  ACalls Tryz.prog 72 [v,.int .i64 i,.sl .lit [.int .i64 x]] σ fun r σ'=>r = .sl .shr (kv .i64 (insL l i x))/\σ'=lessB σ v:=by
 rcases h with ⟨rfl,rfl⟩|⟨X,c,R,rfl,h1,h2,h3,h4,h5⟩
 ·obtain rfl:i=0:=Nat.le_zero.1 hi
  exact xInsI_nil
 ·exact xInsI_ok h1 h3 h4 h5 hi hl
theorem OwnR.del64 {σ0 σ:ASt} {v:AV} {l:List Nat} (h:OwnR σ0 σ .u64 v l) {i:Nat} (hi:i<l.length) (hl:l.length<=1000) :
  ACalls Tryz.prog 73 [v,.int .i64 i,.int .i64 ((i:Int)+1)] σ fun r σ'=>r = .sl .shr (kv .u64 (delL l i))/\σ'=lessB σ v:=by
 rcases h with ⟨rfl,rfl⟩|⟨X,c,R,rfl,h1,h2,h3,h4,h5⟩
 ·exact absurd hi (Nat.not_lt_zero _)
 ·exact xDel64_ok h1 h3 hi hl
theorem OwnR.delI {σ0 σ:ASt} {v:AV} {l:List Nat} (h:OwnR σ0 σ .i64 v l) {i:Nat} (hi:i<l.length) (hl:l.length<=1000) :
  ACalls Tryz.prog 115 [v,.int .i64 i,.int .i64 ((i:Int)+1)] σ fun r σ'=>r = .sl .shr (kv .i64 (delL l i))/\σ'=lessB σ v:=by
 rcases h with ⟨rfl,rfl⟩|⟨X,c,R,rfl,h1,h2,h3,h4,h5⟩
 ·exact absurd hi (Nat.not_lt_zero _)
 ·exact xDelI_ok h1 h3 hi hl
theorem OwnR.bin64 {σ0 σ:ASt} {v:AV} {l:List Nat} (h:OwnR σ0 σ .u64 v l) {t:Nat} (hl:l.length<=1000) (hp:l.Pairwise (· < ·)) :
  ACalls Tryz.prog 58 [v,.int .u64 t] σ fun r σ'=>r = .tuple [.int .i64 (lowI l t),.bool (decide (l[lowI l t]? = some t))]/\σ'=σ:=by
 obtain ⟨kk,hz⟩:=h.look (σ':=noRole) fun _ _=>rfl
 exact (xBin64_ok kk (by omega) hp).lend (by intro v hv;simp only [List.mem_cons,List.not_mem_nil,or_false] at hv;rcases hv with rfl|rfl<;>trivial) (.cons hz (.cons (.refl _) .nil))
end Go.A
namespace Go.A
open Go.Proofs
/-! 51: tabular/tree.encode -/
def c51_14:ACode := .seq (.ops [ oq 30 (.bin .lss (.t 29) (.t 28))]) (.seq (.cond (.t 30) .skip (.exit 0)) (.seq (.block 1 (.seq (.ops [ oq 31 (.mv (.t 29)),oq 32 (.ia 1 (.t 27) (.t 29)),oq 33 (.ld none (.t 32)),oq 4 (.mv (.t 31)),oq 5 (.mv (.t 33))]) (.seq (.ops [ oq 34 (.mv (.t 0)),oq 35 (.mv (.t 4)),oq 36 (.bin .mul (.v (.int .i64 16)) (.t 35)),oq 37 (.bin .add (.v (.int .i64 4)) (.t 36)),oq 38 (.slfrom (false,1) (.t 34) (.t 37)),oq 39 (.mv (.t 5)),oe 40 (.call 55 [(.t 38),(.t 39)])]) (.ops [ oq 41 (.mv (.t 0)),oq 42 (.mv (.t 4)),oq 43 (.bin .mul (.v (.int .i64 16)) (.t 42)),oq 44 (.bin .add (.v (.int .i64 12)) (.t 43)),oq 45 (.slfrom (false,1) (.t 41) (.t 44)),oq 46 (.mv (.t 1)),oq 47 (.nc (.t 46)),oq 48 (.fa 2 (.t 47)),oq 49 (.ld none (.t 48)),oq 50 (.mv (.t 4)),oq 51 (.ia 1 (.t 49) (.t 50)),oq 52 (.ld none (.t 51)),oe 53 (.call 55 [(.t 45),(.t 52)])])))) (.ops [ oq 54 (.bin .add (.t 29) (.v (.int .i64 1))),oq 29 (.mv (.t 54))])))
def c51_33:ACode := .seq (.ops [ oq 71 (.bin .lss (.t 70) (.t 69))]) (.seq (.cond (.t 71) .skip (.exit 2)) (.seq (.block 3 (.seq (.ops [ oq 72 (.mv (.t 70)),oq 73 (.ia 1 (.t 68) (.t 70)),oq 74 (.ld none (.t 73)),oq 6 (.mv (.t 72)),oq 7 (.mv (.t 74))]) (.ops [ oq 75 (.mv (.t 0)),oq 76 (.mv (.t 6)),oq 77 (.bin .mul (.v (.int .i64 4)) (.t 76)),oq 78 (.bin .add (.v (.int .i64 4)) (.t 77)),oq 79 (.slfrom (false,1) (.t 75) (.t 78)),oq 80 (.mv (.t 7)),oq 81 (.conv .u32 (.t 80)),oe 82 (.call 25 [(.t 79),(.t 81)])]))) (.ops [ oq 83 (.bin .add (.t 70) (.v (.int .i64 1))),oq 70 (.mv (.t 83))])))
def c51_47:ACode := .seq (.ops [ oq 90 (.bin .lss (.t 89) (.t 88))]) (.seq (.cond (.t 90) .skip (.exit 4)) (.seq (.block 5 (.seq (.ops [ oq 91 (.mv (.t 89)),oq 92 (.ia 1 (.t 87) (.t 89)),oq 93 (.ld none (.t 92)),oq 8 (.mv (.t 91)),oq 9 (.mv (.t 93))]) (.ops [ oq 94 (.mv (.t 0)),oq 95 (.mv (.t 8)),oq 96 (.bin .mul (.v (.int .i64 8)) (.t 95)),oq 97 (.bin .add (.v (.int .i64 164)) (.t 96)),oq 98 (.slfrom (false,1) (.t 94) (.t 97)),oq 99 (.mv (.t 9)),oe 100 (.call 55 [(.t 98),(.t 99)])]))) (.ops [ oq 101 (.bin .add (.t 89) (.v (.int .i64 1))),oq 89 (.mv (.t 101))])))
def c51_53:ACode := .seq (.seq (.ops [ oq 10 (.mv (.t 1)),oq 11 (.nc (.t 10)),oq 12 (.fa 0 (.t 11)),oq 13 (.ld none (.t 12))]) (.cond (.t 13) (.seq (.ops [ oq 14 (.mv (.t 0)),oq 15 (.mv (.t 0)),oq 16 (.mv (.t 1)),oq 17 (.nc (.t 16)),oq 18 (.fa 1 (.t 17)),oq 19 (.ld none (.t 18)),oq 20 (.len (.t 19)),oq 21 (.conv .u8 (.t 20)),oq 22 (.ia 1 (.t 14) (.v (.int .i64 0))),oz (.store 1 (.t 22) (.v (.int .u8 1))),oq 23 (.ia 1 (.t 15) (.v (.int .i64 1))),oz (.store 1 (.t 23) (.t 21))]) (.seq (.seq (.ops [ oq 24 (.mv (.t 1)),oq 25 (.nc (.t 24)),oq 26 (.fa 1 (.t 25)),oq 27 (.ld none (.t 26)),oq 28 (.len (.t 27)),oq 29 (.mv (.v (.int .i64 0)))]) (.block 0 (.loop c51_14))) .ret)) .skip)) (.seq (.ops [ oq 55 (.mv (.t 0)),oq 56 (.mv (.t 0)),oq 57 (.mv (.t 1)),oq 58 (.nc (.t 57)),oq 59 (.fa 3 (.t 58)),oq 60 (.ld none (.t 59)),oq 61 (.len (.t 60)),oq 62 (.conv .u8 (.t 61)),oq 63 (.ia 1 (.t 55) (.v (.int .i64 0))),oz (.store 1 (.t 63) (.v (.int .u8 2))),oq 64 (.ia 1 (.t 56) (.v (.int .i64 1))),oz (.store 1 (.t 64) (.t 62))]) (.seq (.seq (.ops [ oq 65 (.mv (.t 1)),oq 66 (.nc (.t 65)),oq 67 (.fa 3 (.t 66)),oq 68 (.ld none (.t 67)),oq 69 (.len (.t 68)),oq 70 (.mv (.v (.int .i64 0)))]) (.block 2 (.loop c51_33))) (.seq (.ops [ oq 84 (.mv (.t 1)),oq 85 (.nc (.t 84)),oq 86 (.fa 1 (.t 85)),oq 87 (.ld none (.t 86)),oq 88 (.len (.t 87)),oq 89 (.mv (.v (.int .i64 0)))]) (.block 4 (.loop c51_47)))))
@[go_sem] def c51_14_wp:=wp_of c51_14.eq_1
@[go_sem] def c51_33_wp:=wp_of c51_33.eq_1
@[go_sem] def c51_47_wp:=wp_of c51_47.eq_1
@[go_sem] def c51_53_wp:=wp_of c51_53.eq_1
def c51:AFn:=⟨102,[],c51_53⟩
theorem c51_ok:compF Tryz.prog Tryz.f51=some c51:=by kernel_rfl
theorem a51 {args:List AV} {σ:ASt} {R:AV->ASt->Prop} (hl:args.length<=102) (h:c51_53.wp Tryz.prog (RetQ [] R) (init args) σ):ACalls Tryz.prog 51 args σ R:=acalls_of Tryz.func51 c51_ok hl h
end Go.A
namespace Go.A
open Go.Proofs
def NodeAt (σ:ASt) (n:Nat) (leaf:Bool) (ks vs ds:List Nat):Prop:=∃ k1 k2 k3,σ n=some (.obj [.bool leaf,.sl k1 (kv .u64 ks),.sl k2 (kv .u64 vs),.sl k3 (kv .i64 ds)])
def u64L (l:List Nat):Prop:=∀ x∈l,x<18446744073709551616
def u32L (l:List Nat):Prop:=∀ x∈l,x<4294967296
structure TLeaf (b:List UInt8) (ks vs:List Nat):Prop where
 len:b.length=504
 b0:b[0]? = some 1
 b1:b[1]? = some (UInt8.ofNat ks.length)
 n:vs.length=ks.length
 most:ks.length<=30
 ku:u64L ks
 vu:u64L vs
 k:∀ (i k:Nat),ks[i]? = some k->bat b (4+16*i) 8=le64 k
 v:∀ (i v:Nat),vs[i]? = some v->bat b (12+16*i) 8=le64 v
structure TInner (b:List UInt8) (ks ds:List Nat):Prop where
 len:b.length=504
 b0:b[0]? = some 2
 b1:b[1]? = some (UInt8.ofNat ds.length)
 n:ds.length=ks.length+1
 two:2<=ds.length
 most:ds.length<=40
 ku:u64L ks
 du:u32L ds
 k:∀ (i k:Nat),ks[i]? = some k->bat b (164+8*i) 8=le64 k
 d:∀ (i d:Nat),ds[i]? = some d->bat b (4+4*i) 4=le32 d
theorem take_snoc {α:Type} {l:List α} {i:Nat} {x:α} (h:l[i]? = some x):l.take i ++ [x]=l.take (i+1):=by
 obtain ⟨hi,rfl⟩:=List.getElem?_eq_some_iff.1 h
 rw [List.take_succ_eq_append_getElem hi]
theorem slV_page {X c o:Nat} (ho:o<504) (hc:504<=c):slV (false,1) (.msl X 0 504 c) (o:Int) 504=some (.msl X o (504-o) (c-o)):=by
 have:=slV_nat (b:=X) (o:=0) (n:=504) (c:=c) (lo:=o) (hi:=504) (by omega) hc (by omega)
 rw [Nat.zero_add] at this
 exact this
section
variable {σ:ASt} {X n c:Nat} {b:List UInt8} {ks vs ds:List Nat}
set_option maxHeartbeats 1000000 in
theorem trenc_leaf (hX:σ X=some (.obj (bytesAV b))) (hb:b.length=504) (hc:504<=c) (hn:NodeAt σ n true ks vs ds) (hnX:n≠X) (hv:vs.length=ks.length) (hm:ks.length<=30) (hku:u64L ks) (hvu:u64L vs) :
  ACalls Tryz.prog 51 [.msl X 0 504 c,.ptr n 0] σ fun r σ'=>r = .tuple []/\∃ b',TLeaf b' ks vs/\σ'=σ.set X (some (.obj (bytesAV b'))):=by
 obtain ⟨k1,k2,k3,hn⟩:=hn
 have hkl:=kv_len .u64 ks
 have hvl:=kv_len .u64 vs
 have hkg:=fun (i n:Nat) (h:ks[i]? = some n)=>kv_get (k := .u64) h
 have hvg:=fun (i n:Nat) (h:vs[i]? = some n)=>kv_get (k := .u64) h
 generalize kv .u64 ks=KS at *
 generalize kv .u64 vs=VS at *
 generalize kv .i64 ds=DS at *
 have w1:IntKind.wrap .u8 (ks.length:Int)=((UInt8.ofNat ks.length).toNat:Int):=w_ofNat _
 have p0:=put_byte (b:=b) (o:=0) 1
 have p1:=put_byte (b:=spl b 0 [1]) (o:=1) (UInt8.ofNat ks.length)
 have hbl:(bytesAV b).length=504:=by rw [kbytes_len];exact hb
 obtain ⟨b2,hb2⟩:∃ b2,b2=spl (spl b 0 [1]) 1 [UInt8.ofNat ks.length]:=⟨_,rfl⟩
 have l1:(spl b 0 [1]).length=504:=by rw [spl_len (by simp only [List.length_singleton];omega)];exact hb
 have l2:b2.length=504:=by rw [hb2,spl_len (by simp only [List.length_singleton];omega)];exact l1
 have g0:b2[0]? = some 1:=by
  rw [hb2,get_else (by simp only [List.length_singleton];omega) (by omega)]
  exact get_same (by omega)
 have g1:b2[1]? = some (UInt8.ofNat ks.length):=by
  rw [hb2]
  exact get_same (by omega)
 rw [<-hb2] at p1
 have hbl1:(bytesAV (spl b 0 [1])).length=504:=by rw [kbytes_len];exact l1
 clear hb2
 generalize hM1:bytesAV (spl b 0 [1])=M1 at *
 generalize hM0:bytesAV b=M0 at *
 have e1u:((1:UInt8).toNat:Int)=1:=rfl
 rw [e1u] at p0
 have hnn:=hn
 have hl0:0+1<=M0.length:=by omega
 have hl1:1+1<=M1.length:=by omega
 have z1:(1:Int).toNat=1:=rfl
 have z0:(0:Int).toNat=0:=rfl
 rw [List.take_zero,List.nil_append] at p0
 generalize hL:ks.length=L at *
 refine a51 (by simp) ?_
 simp (disch:=first|assumption|omega|(simp only [List.length_append,List.length_cons,List.length_nil];omega)) only [go_sem,hn,hkl,w1,hX,hl0,p0,hl1,p1,z0,z1,Nat.zero_add]
 obtain ⟨J,hJ⟩:∃ J:Nat->AFr->ASt->Prop,J=fun i a1 s2=>i<=L/\(a1 0 = .msl X 0 504 c/\a1 1 = .ptr n 0/\a1 27 = .sl k1 KS/\a1 28 = .int .i64 L/\a1 29 = .int .i64 i)/\∃ b',b'.length=504/\b'[0]? = some 1/\b'[1]? = some (UInt8.ofNat L) ∧
   (∀ (j k:Nat),j<i->ks[j]? = some k->bat b' (4+16*j) 8=le64 k)/\(∀ (j v:Nat),j<i->vs[j]? = some v->bat b' (12+16*j) 8=le64 v)/\s2=σ.set X (some (.obj (bytesAV b'))):=⟨_,rfl⟩
 refine wp_loop_on J (fun i=>L-i) 0 ?_ ?_
 ·rw [hJ]
  refine ⟨Nat.zero_le _,?_,b2,l2,g0,g1,fun j k hj=>absurd hj (Nat.not_lt_zero _),fun j k hj=>absurd hj (Nat.not_lt_zero _),rfl⟩
  simp (disch:=first|assumption|omega|(simp only [List.length_append,List.length_cons,List.length_nil];omega)) only [go_sem]
 intro i a1 s2 hj
 rw [hJ] at hj
 obtain ⟨hi,hf,b',hb',h0,h1,hk,hvv,rfl⟩:=hj
 by_cases hlt:i<L
 ·have hlt':(i:Int)<(L:Int):=by omega
  obtain ⟨k,hk1⟩:∃ k,ks[i]? = some k:=⟨_,List.getElem?_eq_getElem (by omega)⟩
  obtain ⟨v,hv1⟩:∃ v,vs[i]? = some v:=⟨_,List.getElem?_eq_getElem (by omega)⟩
  have hg1:=hkg i k hk1
  have hg2:=hvg i v hv1
  have hs1:slV (false,1) (.msl X 0 504 c) (4+16*(i:Int)) 504=some (.msl X (4+16*i) (504-(4+16*i)) (c-(4+16*i))):=slV_page (o:=4+16*i) (by omega) hc
  have hs2:slV (false,1) (.msl X 0 504 c) (12+16*(i:Int)) 504=some (.msl X (12+16*i) (504-(12+16*i)) (c-(12+16*i))):=slV_page (o:=12+16*i) (by omega) hc
  have ku:=hku k (List.mem_of_getElem? hk1)
  have vu:=hvu v (List.mem_of_getElem? hv1)
  have c1:=mput64_ok (σ:=σ.set X (some (.obj (bytesAV b')))) (B:=X) (o:=4+16*i) (n:=504-(4+16*i)) (c:=c-(4+16*i)) (v:=k) (ASt.set_same _ _ _) (by omega) (by omega) (by omega) ku
  obtain ⟨b3,hb3⟩:∃ b3,b3=spl b' (4+16*i) (le64 k):=⟨_,rfl⟩
  have l3:b3.length=504:=by rw [hb3,spl_len (by rw [le64_len];omega)];exact hb'
  rw [<-hb3,ASt.set_set] at c1
  have c2:=mput64_ok (σ:=σ.set X (some (.obj (bytesAV b3)))) (B:=X) (o:=12+16*i) (n:=504-(12+16*i)) (c:=c-(12+16*i)) (v:=v) (ASt.set_same _ _ _) (by omega) (by omega) (by omega) vu
  obtain ⟨b4,hb4⟩:∃ b4,b4=spl b3 (12+16*i) (le64 v):=⟨_,rfl⟩
  have l4:b4.length=504:=by rw [hb4,spl_len (by rw [le64_len];omega)];exact l3
  rw [<-hb4,ASt.set_set] at c2
  have f3:∀ o n,o+n<=4+16*i\/4+16*i+8<=o->bat b3 o n=bat b' o n:=fun o n h=>by rw [hb3];exact bat_else (by rw [le64_len];omega) h
  have f4:∀ o n,o+n<=12+16*i\/12+16*i+8<=o->bat b4 o n=bat b3 o n:=fun o n h=>by rw [hb4];exact bat_else (by rw [le64_len];omega) h
  have q3:bat b3 (4+16*i) 8=le64 k:=by rw [hb3];exact bat_same (by rw [le64_len];omega)
  have q4:bat b4 (12+16*i) 8=le64 v:=by rw [hb4];exact bat_same (by rw [le64_len];omega)
  have y0:b4[0]? = some 1:=by rw [hb4,get_else (by rw [le64_len];omega) (by omega),hb3,get_else (by rw [le64_len];omega) (by omega)];exact h0
  have y1:b4[1]? = some (UInt8.ofNat L):=by rw [hb4,get_else (by rw [le64_len];omega) (by omega),hb3,get_else (by rw [le64_len];omega) (by omega)];exact h1
  clear hb3 hb4
  simp (disch:=first|assumption|omega|(simp only [List.length_append,List.length_cons,List.length_nil];omega)) only [go_sem,hf,hlt',hg1,hs1,Int.toNat_natCast]
  refine c1.mono ?_
  rintro r σ1 ⟨rfl,rfl⟩
  simp (disch:=first|assumption|omega|(simp only [List.length_append,List.length_cons,List.length_nil];omega)) only [go_sem,hf,hs2,hn,hg2,Int.toNat_natCast]
  refine c2.mono ?_
  rintro r σ1 ⟨rfl,rfl⟩
  simp (disch:=first|assumption|omega|(simp only [List.length_append,List.length_cons,List.length_nil];omega)) only [go_sem,hf]
  refine ⟨i+1,by omega,?_⟩
  rw [hJ]
  refine ⟨by omega,?_,b4,l4,y0,y1,fun j k' hj hk'=>?_,fun j v' hj hv'=>?_,rfl⟩
  ·simp (disch:=first|assumption|omega|(simp only [List.length_append,List.length_cons,List.length_nil];omega)) only [go_sem,hf]
  ·by_cases hji:j=i
   ·subst hji
    rw [hk1] at hk'
    rw [<-Option.some.inj hk',f4 _ _ (by omega)]
    exact q3
   ·rw [f4 _ _ (by omega),f3 _ _ (by omega)]
    exact hk j k' (by omega) hk'
  ·by_cases hji:j=i
   ·subst hji
    rw [hv1] at hv'
    rw [<-Option.some.inj hv']
    exact q4
   ·rw [f4 _ _ (by omega),f3 _ _ (by omega)]
    exact hvv j v' (by omega) hv'
 ·have hlt':¬ (i:Int)<(L:Int):=by omega
  obtain rfl:i=L:=by omega
  have hfin:TLeaf b' ks vs:=⟨hb',h0,by rw [hL];exact h1,by rw [hL];exact hv,by rw [hL];exact hm,hku,hvu,fun j k hk'=>hk j k (by have:=(List.getElem?_eq_some_iff.1 hk').1;omega) hk',fun j v hv'=>hvv j v (by have:=(List.getElem?_eq_some_iff.1 hv').1;omega) hv'⟩
  simp (disch:=first|assumption|omega|(simp only [List.length_append,List.length_cons,List.length_nil];omega)) only [go_sem,hf,hlt']
  exact retC_by (.refl _) (.refl _) ⟨rfl,b',hfin,rfl⟩
end
end Go.A
namespace Go.A
open Go.Proofs
/-! 86: tabular/tree.decode -/
def c86_16:ACode := .seq (.ops [ oq 27 (.bin .lss (.t 26) (.t 25))]) (.seq (.cond (.t 27) .skip (.exit 1)) (.seq (.block 2 (.seq (.ops [ oq 28 (.mv (.t 26)),oq 6 (.mv (.t 28))]) (.seq (.ops [ oq 29 (.mv (.t 5)),oq 30 (.mv (.t 5)),oq 31 (.nc (.t 30)),oq 32 (.fa 1 (.t 31)),oq 33 (.ld none (.t 32)),oq 34 (.mv (.t 0)),oq 35 (.mv (.t 6)),oq 36 (.bin .mul (.v (.int .i64 16)) (.t 35)),oq 37 (.bin .add (.v (.int .i64 4)) (.t 36)),oq 38 (.slfrom (false,1) (.t 34) (.t 37)),⟨some 39,none,.e (.call 103 [(.t 38)]),[⟨none,.ld none (.t 32),33⟩]⟩,oq 40 (.bslv 1 [(.t 39)]),oe 41 (.app 33 1 8 [(.int .u64 0)] (.t 33) (.t 40)),oq 42 (.nc (.t 29)),oq 43 (.fa 1 (.t 42)),oz (.store 1 (.t 43) (.t 41))]) (.ops [ oq 44 (.mv (.t 5)),oq 45 (.mv (.t 5)),oq 46 (.nc (.t 45)),oq 47 (.fa 2 (.t 46)),oq 48 (.ld none (.t 47)),oq 49 (.mv (.t 0)),oq 50 (.mv (.t 6)),oq 51 (.bin .mul (.v (.int .i64 16)) (.t 50)),oq 52 (.bin .add (.v (.int .i64 12)) (.t 51)),oq 53 (.slfrom (false,1) (.t 49) (.t 52)),⟨some 54,none,.e (.call 103 [(.t 53)]),[⟨none,.ld none (.t 47),48⟩]⟩,oq 55 (.bslv 1 [(.t 54)]),oe 56 (.app 33 1 8 [(.int .u64 0)] (.t 48) (.t 55)),oq 57 (.nc (.t 44)),oq 58 (.fa 2 (.t 57)),oz (.store 1 (.t 58) (.t 56))])))) (.ops [ oq 59 (.bin .add (.t 26) (.v (.int .i64 1))),oq 26 (.mv (.t 59))])))
def c86_36:ACode := .seq (.ops [ oq 78 (.bin .lss (.t 77) (.t 76))]) (.seq (.cond (.t 78) .skip (.exit 3)) (.seq (.block 4 (.seq (.ops [ oq 79 (.mv (.t 77)),oq 8 (.mv (.t 79))]) (.ops [ oq 80 (.mv (.t 7)),oq 81 (.mv (.t 7)),oq 82 (.nc (.t 81)),oq 83 (.fa 3 (.t 82)),oq 84 (.ld none (.t 83)),oq 85 (.mv (.t 0)),oq 86 (.mv (.t 8)),oq 87 (.bin .mul (.v (.int .i64 4)) (.t 86)),oq 88 (.bin .add (.v (.int .i64 4)) (.t 87)),oq 89 (.slfrom (false,1) (.t 85) (.t 88)),⟨some 90,none,.e (.call 102 [(.t 89)]),[⟨none,.ld none (.t 83),84⟩]⟩,oq 91 (.conv .i64 (.t 90)),oq 92 (.bslv 1 [(.t 91)]),oe 93 (.app 3 1 8 [(.int .i64 0)] (.t 84) (.t 92)),oq 94 (.nc (.t 80)),oq 95 (.fa 3 (.t 94)),oz (.store 1 (.t 95) (.t 93))]))) (.ops [ oq 96 (.bin .add (.t 77) (.v (.int .i64 1))),oq 77 (.mv (.t 96))])))
def c86_50:ACode := .seq (.ops [ oq 100 (.bin .lss (.t 99) (.t 98))]) (.seq (.cond (.t 100) .skip (.exit 5)) (.seq (.block 6 (.seq (.ops [ oq 101 (.mv (.t 99)),oq 9 (.mv (.t 101))]) (.ops [ oq 102 (.mv (.t 7)),oq 103 (.mv (.t 7)),oq 104 (.nc (.t 103)),oq 105 (.fa 1 (.t 104)),oq 106 (.ld none (.t 105)),oq 107 (.mv (.t 0)),oq 108 (.mv (.t 9)),oq 109 (.bin .mul (.v (.int .i64 8)) (.t 108)),oq 110 (.bin .add (.v (.int .i64 164)) (.t 109)),oq 111 (.slfrom (false,1) (.t 107) (.t 110)),⟨some 112,none,.e (.call 103 [(.t 111)]),[⟨none,.ld none (.t 105),106⟩]⟩,oq 113 (.bslv 1 [(.t 112)]),oe 114 (.app 33 1 8 [(.int .u64 0)] (.t 106) (.t 113)),oq 115 (.nc (.t 102)),oq 116 (.fa 1 (.t 115)),oz (.store 1 (.t 116) (.t 114))]))) (.ops [ oq 117 (.bin .add (.t 99) (.v (.int .i64 1))),oq 99 (.mv (.t 117))])))
def c86_68:ACode := .seq (.ops [ oq 2 (.mv (.v .nilp)),oq 3 (.mv (.v (.int .i64 0)))]) (.seq (.ops [ oq 10 (.mv (.t 0)),oq 11 (.ia 1 (.t 10) (.v (.int .i64 1))),oq 12 (.ld none (.t 11)),oq 13 (.conv .i64 (.t 12)),oq 4 (.mv (.t 13))]) (.seq (.block 0 (.seq (.ops [ oq 15 (.mv (.t 0)),oq 16 (.ia 1 (.t 15) (.v (.int .i64 0))),oq 17 (.ld none (.t 16)),oq 18 (.bin .eql (.t 17) (.v (.int .u8 1))),oq 19 (.mv (.t 18)),⟨some 20,some (19,true),.q (.mv (.t 4)),[]⟩,⟨some 21,some (19,true),.q (.bin .leq (.t 20) (.v (.int .i64 30))),[]⟩,oq 22 (.pick (.t 19) (.t 21) (.v (.bool false))),oq 14 (.mv (.t 22))]) (.cond (.t 14) (.seq (.ops [ oq 23 (.build [(.bool false),(.sl .full []),(.sl .full []),(.sl .full [])] [(0,1,(.v (.bool true)))]),oe 24 (.box (.t 23)),oq 5 (.mv (.t 24))]) (.seq (.seq (.ops [ oq 25 (.mv (.t 4)),oq 26 (.mv (.v (.int .i64 0)))]) (.block 1 (.loop c86_16))) (.seq (.ops [ oq 60 (.mv (.t 5)),oq 2 (.mv (.t 60)),oq 3 (.mv (.v (.int .i64 0)))]) .ret))) (.seq (.ops [ oq 62 (.mv (.t 0)),oq 63 (.ia 1 (.t 62) (.v (.int .i64 0))),oq 64 (.ld none (.t 63)),oq 65 (.bin .eql (.t 64) (.v (.int .u8 2))),oq 66 (.mv (.t 65)),⟨some 67,some (66,true),.q (.mv (.t 4)),[]⟩,⟨some 68,some (66,true),.q (.bin .geq (.t 67) (.v (.int .i64 2))),[]⟩,oq 69 (.pick (.t 66) (.t 68) (.v (.bool false))),oq 70 (.mv (.t 69)),⟨some 71,some (70,true),.q (.mv (.t 4)),[]⟩,⟨some 72,some (70,true),.q (.bin .leq (.t 71) (.v (.int .i64 40))),[]⟩,oq 73 (.pick (.t 70) (.t 72) (.v (.bool false))),oq 61 (.mv (.t 73))]) (.cond (.t 61) (.seq (.ops [ oq 74 (.build [(.bool false),(.sl .full []),(.sl .full []),(.sl .full [])] []),oe 75 (.box (.t 74)),oq 7 (.mv (.t 75))]) (.seq (.seq (.ops [ oq 76 (.mv (.t 4)),oq 77 (.mv (.v (.int .i64 0)))]) (.block 3 (.loop c86_36))) (.seq (.seq (.ops [ oq 97 (.mv (.t 4)),oq 98 (.bin .sub (.t 97) (.v (.int .i64 1))),oq 99 (.mv (.v (.int .i64 0)))]) (.block 5 (.loop c86_50))) (.seq (.ops [ oq 118 (.mv (.t 7)),oq 2 (.mv (.t 118)),oq 3 (.mv (.v (.int .i64 0)))]) .ret)))) .skip))))) (.seq (.ops [ oq 2 (.mv (.v .nilp)),oq 3 (.mv (.v (.int .i64 3)))]) .ret)))
@[go_sem] def c86_16_wp:=wp_of c86_16.eq_1
@[go_sem] def c86_36_wp:=wp_of c86_36.eq_1
@[go_sem] def c86_50_wp:=wp_of c86_50.eq_1
@[go_sem] def c86_68_wp:=wp_of c86_68.eq_1
def c86:AFn:=⟨119,[.t 2,.t 3],c86_68⟩
theorem c86_ok:compF Tryz.prog Tryz.f86=some c86:=by kernel_rfl
theorem a86 {args:List AV} {σ:ASt} {R:AV->ASt->Prop} (hl:args.length<=119) (h:c86_68.wp Tryz.prog (RetQ [.t 2,.t 3] R) (init args) σ):ACalls Tryz.prog 86 args σ R:=acalls_of Tryz.func86 c86_ok hl h
end Go.A
namespace Go.A
open Go.Proofs
def Kept (σ σ':ASt):Prop:=∀ x r,σ x=some r->σ' x=some r
theorem Kept.refl (σ:ASt):Kept σ σ:=fun _ _ h=>h
theorem Kept.set {σ σ':ASt} (h:Kept σ σ') {x:Nat} {r:Option Role} (hx:σ x=none):Kept σ (σ'.set x r):=fun y q hy=>by
 rw [ASt.set_ne (fun e=>by rw [e,hx] at hy;cases hy)]
 exact h y q hy
theorem Kept.gone {σ σ':ASt} (h:Kept σ σ') {x:Nat} (hx:σ' x=none):σ x=none:=by
 cases hc:σ x with
 | none=>rfl
 | some r=>rw [h x r hc] at hx;cases hx
structure LeafM (σ0 σ:ASt) (n:Nat) (a b:AV) (ks vs:List Nat):Prop where
 kept:Kept σ0 σ
 new:σ0 n=none
 hn:σ n=some (.obj [.bool true,a,b,.sl .full []])
 ha:OwnR σ0 σ .u64 a ks
 hb:OwnR σ0 σ .u64 b vs
 na:blkV a≠some n
 nb:blkV b≠some n
 ab:∀ x,blkV a=some x->blkV b≠some x
theorem byte_small {n:Nat} (h:n<=200):((UInt8.ofNat n).toNat:Int)=(n:Int):=by rw [UInt8.toNat_ofNat'];omega
section
variable {σ:ASt} {X n c:Nat} {b:List UInt8} {ks vs ds:List Nat}
set_option maxHeartbeats 2000000 in
theorem trdec_leaf (hX:σ X=some (.obj (bytesAV b))) (hc:504<=c) (ht:TLeaf b ks vs) :
  ACalls Tryz.prog 86 [.msl X 0 504 c] σ fun r σ'=>∃ n x y,r = .tuple [.ptr n 0,.int .i64 0]/\LeafM σ σ' n x y ks vs:=by
 obtain ⟨hb,h0,h1,hv,hm,hku,hvu,hk,hvv⟩:=ht
 have g0:(bytesAV b)[0]? = some (.int .u8 1):=by rw [bytesAV_get,h0];rfl
 have g1:(bytesAV b)[1]? = some (.int .u8 (ks.length:Int)):=by rw [bytesAV_get,h1];show some (AV.int .u8 ((UInt8.ofNat ks.length).toNat:Int))=_;rw [byte_small (by omega)]
 have hXb:=hX
 generalize hM:bytesAV b=M at hX g0 g1
 generalize hL:ks.length=L at *
 have hL':(L:Int)<=30:=by omega
 have z0:(0:Int).toNat=0:=rfl
 have z1:(1:Int).toNat=1:=rfl
 refine a86 (by simp) ?_
 simp (disch:=first|assumption|omega|(simp only [List.length_append,List.length_cons,List.length_nil];omega)) only [go_sem,hX,g0,g1,z0,z1,Nat.zero_add]
 refine boxC_by rfl fun n hn=>?_
 simp (disch:=first|assumption|omega|(simp only [List.length_append,List.length_cons,List.length_nil];omega)) only [go_sem]
 have hXn:X≠n:=fun e=>by rw [e,hn] at hX;cases hX
 obtain ⟨J,hJ⟩:∃ J:Nat->AFr->ASt->Prop,J=fun i a1 s2=>i<=L/\(a1 0 = .msl X 0 504 c/\a1 5 = .ptr n 0/\a1 25 = .int .i64 L/\a1 26 = .int .i64 i)/\∃ x y,LeafM σ s2 n x y (ks.take i) (vs.take i):=⟨_,rfl⟩
 refine wp_loop_on J (fun i=>L-i) 0 ?_ ?_
 ·rw [hJ]
  refine ⟨Nat.zero_le _,?_,.sl .full [],.sl .full [],⟨(Kept.refl σ).set hn,hn,ASt.set_same _ _ _,OwnR.nil _ _ _,OwnR.nil _ _ _,(by intro h;cases h),(by intro h;cases h),(by intro x h;cases h)⟩⟩
  simp (disch:=first|assumption|omega|(simp only [List.length_append,List.length_cons,List.length_nil];omega)) only [go_sem]
 intro i a1 s2 hj
 rw [hJ] at hj
 obtain ⟨hi,hf,x,y,hm2⟩:=hj
 have hs2n:=hm2.hn
 have hs2X:=hm2.kept _ _ hXb
 by_cases hlt:i<L
 ·have hlt':(i:Int)<(L:Int):=by omega
  obtain ⟨k,hk1⟩:∃ k,ks[i]? = some k:=⟨_,List.getElem?_eq_getElem (by omega)⟩
  obtain ⟨v,hv1⟩:∃ v,vs[i]? = some v:=⟨_,List.getElem?_eq_getElem (by omega)⟩
  have hs1:slV (false,1) (.msl X 0 504 c) (4+16*(i:Int)) 504=some (.msl X (4+16*i) (504-(4+16*i)) (c-(4+16*i))):=slV_page (o:=4+16*i) (by omega) hc
  have hs2:slV (false,1) (.msl X 0 504 c) (12+16*(i:Int)) 504=some (.msl X (12+16*i) (504-(12+16*i)) (c-(12+16*i))):=slV_page (o:=12+16*i) (by omega) hc
  have ku:=hku k (List.mem_of_getElem? hk1)
  have vu:=hvu v (List.mem_of_getElem? hv1)
  have c1:=mu64_ok (c:=c-(4+16*i)) (n:=504-(4+16*i)) hs2X (hk i k hk1) (by omega) (by omega) ku
  have tk:=take_snoc hk1
  have tv:=take_snoc hv1
  have hlk:(ks.take i).length<=10000:=by rw [List.length_take];omega
  have hlv:(vs.take i).length<=10000:=by rw [List.length_take];omega
  simp (disch:=first|assumption|omega|(simp only [List.length_append,List.length_cons,List.length_nil];omega)) only [go_sem,hf,hlt',hs2n,hs1]
  refine c1.mono ?_
  rintro r s3 ⟨rfl,rfl⟩
  simp (disch:=first|assumption|omega|(simp only [List.length_append,List.length_cons,List.length_nil];omega)) only [go_sem,hs2n]
  refine hm2.ha.app (fun z hz=>hm2.kept.gone hz) hlk fun x' X1 r hx1 hor hown=>?_
  have hX1σ:σ X1=none:=by
   rcases hor with h|h
   ·exact (hm2.ha.blk h).2
   ·exact hm2.kept.gone h
  have hX1n:n≠X1:=by
   rcases hor with h|h
   ·exact fun e=>hm2.na (by rw [e];exact h)
   ·exact fun e=>by rw [<-e,hs2n] at h;cases h
  have hX1y:blkV y≠some X1:=by
   rcases hor with h|h
   ·exact hm2.ab _ h
   ·intro hy
    obtain ⟨⟨cs,h2⟩,_⟩:=hm2.hb.blk hy
    rw [h] at h2;cases h2
  rw [tk] at hown
  have m3:LeafM σ ((s3.set X1 (some r)).set n (some (.obj [.bool true,x',y,.sl .full []]))) n x' y (ks.take (i+1)) (vs.take i):=by
   refine ⟨(hm2.kept.set hX1σ).set hm2.new,hm2.new,ASt.set_same _ _ _,hown.set (by rw [hx1];intro h;exact hX1n (Option.some.inj h).symm),(hm2.hb.set hX1y).set hm2.nb,by rw [hx1];intro h;exact hX1n (Option.some.inj h).symm,hm2.nb,?_⟩
   intro z hz
   rw [hx1] at hz
   rw [<-Option.some.inj hz]
   exact hX1y
  have hn3:=m3.hn
  have hX3:=m3.kept _ _ hXb
  obtain ⟨xc,xl,xa⟩:=hown.cell
  simp (disch:=first|assumption|omega|(simp only [List.length_append,List.length_cons,List.length_nil];omega)) only [go_sem,hf,hs2n,xc,xl,hs2]
  generalize (s3.set X1 (some r)).set n (some (.obj [.bool true,x',y,.sl .full []]))=s4 at *
  have c2:=mu64_ok (c:=c-(12+16*i)) (n:=504-(12+16*i)) hX3 (hvv i v hv1) (by omega) (by omega) vu
  refine c2.mono ?_
  rintro r2 s5 ⟨rfl,rfl⟩
  simp (disch:=first|assumption|omega|(simp only [List.length_append,List.length_cons,List.length_nil];omega)) only [go_sem,hn3]
  refine m3.hb.app (fun z hz=>m3.kept.gone hz) hlv fun y' Y1 q hy1 hoy howny=>?_
  have hY1σ:σ Y1=none:=by
   rcases hoy with h|h
   ·exact (m3.hb.blk h).2
   ·exact m3.kept.gone h
  have hY1n:n≠Y1:=by
   rcases hoy with h|h
   ·exact fun e=>m3.nb (by rw [e];exact h)
   ·exact fun e=>by rw [<-e,hn3] at h;cases h
  have hY1x:blkV x'≠some Y1:=by
   rcases hoy with h|h
   ·intro hx
    exact m3.ab _ hx h
   ·intro hx
    obtain ⟨⟨cs,h2⟩,_⟩:=m3.ha.blk hx
    rw [h] at h2;cases h2
  rw [tv] at howny
  have m5:LeafM σ ((s5.set Y1 (some q)).set n (some (.obj [.bool true,x',y',.sl .full []]))) n x' y' (ks.take (i+1)) (vs.take (i+1)):=by
   refine ⟨(m3.kept.set hY1σ).set m3.new,m3.new,ASt.set_same _ _ _,(m3.ha.set hY1x).set m3.na,howny.set (by rw [hy1];intro h;exact hY1n (Option.some.inj h).symm),m3.na,by rw [hy1];intro h;exact hY1n (Option.some.inj h).symm,?_⟩
   intro z hz hz2
   rw [hy1] at hz2
   rw [<-Option.some.inj hz2] at hz
   exact hY1x hz
  obtain ⟨yc,yl,ya⟩:=howny.cell
  simp (disch:=first|assumption|omega|(simp only [List.length_append,List.length_cons,List.length_nil];omega)) only [go_sem,hf,hn3,yc,yl]
  refine ⟨i+1,by omega,?_⟩
  rw [hJ]
  refine ⟨by omega,?_,x',y',m5⟩
  simp (disch:=first|assumption|omega|(simp only [List.length_append,List.length_cons,List.length_nil];omega)) only [go_sem,hf]
 ·have hlt':¬ (i:Int)<(L:Int):=by omega
  obtain rfl:i=L:=by omega
  rw [List.take_of_length_le (by omega),List.take_of_length_le (by omega)] at hm2
  simp (disch:=first|assumption|omega|(simp only [List.length_append,List.length_cons,List.length_nil];omega)) only [go_sem,hf,hlt']
  exact retC_by (.refl _) (.refl _) ⟨n,x,y,rfl,hm2⟩
end
end Go.A
namespace Go.A
open Go.Proofs
structure InnerM (σ0 σ:ASt) (n:Nat) (a d:AV) (ks ds:List Nat):Prop where
 kept:Kept σ0 σ
 new:σ0 n=none
 hn:σ n=some (.obj [.bool false,a,.sl .full [],d])
 ha:OwnR σ0 σ .u64 a ks
 hd:OwnR σ0 σ .i64 d ds
 na:blkV a≠some n
 nd:blkV d≠some n
 ad:∀ x,blkV a=some x->blkV d≠some x
section
variable {σ:ASt} {X n c:Nat} {b:List UInt8} {ks vs ds:List Nat}
set_option maxHeartbeats 2000000 in
theorem trenc_inner (hX:σ X=some (.obj (bytesAV b))) (hb:b.length=504) (hc:504<=c) (hn:NodeAt σ n false ks vs ds) (hnX:n≠X) (hd:ds.length=ks.length+1) (h2:2<=ds.length) (hm:ds.length<=40) (hku:u64L ks) (hdu:u32L ds) :
  ACalls Tryz.prog 51 [.msl X 0 504 c,.ptr n 0] σ fun r σ'=>r = .tuple []/\∃ b',TInner b' ks ds/\σ'=σ.set X (some (.obj (bytesAV b'))):=by
 obtain ⟨k1,k2,k3,hn⟩:=hn
 have hkl:=kv_len .u64 ks
 have hdl:=kv_len .i64 ds
 have hkg:=fun (i n:Nat) (h:ks[i]? = some n)=>kv_get (k := .u64) h
 have hdg:=fun (i n:Nat) (h:ds[i]? = some n)=>kv_get (k := .i64) h
 generalize kv .u64 ks=KS at *
 generalize kv .u64 vs=VS at *
 generalize kv .i64 ds=DS at *
 have w1:IntKind.wrap .u8 (ds.length:Int)=((UInt8.ofNat ds.length).toNat:Int):=w_ofNat _
 have p0:=put_byte (b:=b) (o:=0) 2
 have p1:=put_byte (b:=spl b 0 [2]) (o:=1) (UInt8.ofNat ds.length)
 have hbl:(bytesAV b).length=504:=by rw [kbytes_len];exact hb
 obtain ⟨b2,hb2⟩:∃ b2,b2=spl (spl b 0 [2]) 1 [UInt8.ofNat ds.length]:=⟨_,rfl⟩
 have l1:(spl b 0 [2]).length=504:=by rw [spl_len (by simp only [List.length_singleton];omega)];exact hb
 have l2:b2.length=504:=by rw [hb2,spl_len (by simp only [List.length_singleton];omega)];exact l1
 have g0:b2[0]? = some 2:=by
  rw [hb2,get_else (by simp only [List.length_singleton];omega) (by omega)]
  exact get_same (by omega)
 have g1:b2[1]? = some (UInt8.ofNat ds.length):=by
  rw [hb2]
  exact get_same (by omega)
 rw [<-hb2] at p1
 have hbl1:(bytesAV (spl b 0 [2])).length=504:=by rw [kbytes_len];exact l1
 clear hb2
 generalize hM1:bytesAV (spl b 0 [2])=M1 at *
 generalize hM0:bytesAV b=M0 at *
 have e1u:((2:UInt8).toNat:Int)=2:=rfl
 rw [e1u] at p0
 have hl0:0+1<=M0.length:=by omega
 have hl1:1+1<=M1.length:=by omega
 have z1:(1:Int).toNat=1:=rfl
 have z0:(0:Int).toNat=0:=rfl
 rw [List.take_zero,List.nil_append] at p0
 generalize hL:ds.length=L at *
 refine a51 (by simp) ?_
 simp (disch:=first|assumption|omega|(simp only [List.length_append,List.length_cons,List.length_nil];omega)) only [go_sem,hn,hdl,w1,hX,hl0,p0,hl1,p1,z0,z1,Nat.zero_add]
 obtain ⟨J,hJ⟩:∃ J:Nat->AFr->ASt->Prop,J=fun i a1 s2=>i<=L/\(a1 0 = .msl X 0 504 c/\a1 1 = .ptr n 0/\a1 68 = .sl k3 DS/\a1 69 = .int .i64 L/\a1 70 = .int .i64 i)/\∃ b',b'.length=504/\b'[0]? = some 2/\b'[1]? = some (UInt8.ofNat L) ∧
   (∀ (j d:Nat),j<i->ds[j]? = some d->bat b' (4+4*j) 4=le32 d)/\s2=σ.set X (some (.obj (bytesAV b'))):=⟨_,rfl⟩
 refine wp_loop_on J (fun i=>L-i) 0 ?_ ?_
 ·rw [hJ]
  refine ⟨Nat.zero_le _,?_,b2,l2,g0,g1,fun j k hj=>absurd hj (Nat.not_lt_zero _),rfl⟩
  simp (disch:=first|assumption|omega|(simp only [List.length_append,List.length_cons,List.length_nil];omega)) only [go_sem]
 intro i a1 s2 hj
 rw [hJ] at hj
 obtain ⟨hi,hf,b',hb',h0,h1,hdd,rfl⟩:=hj
 by_cases hlt:i<L
 ·have hlt':(i:Int)<(L:Int):=by omega
  obtain ⟨d,hd1⟩:∃ d,ds[i]? = some d:=⟨_,List.getElem?_eq_getElem (by omega)⟩
  have hg1:=hdg i d hd1
  have hs1:slV (false,1) (.msl X 0 504 c) (4+4*(i:Int)) 504=some (.msl X (4+4*i) (504-(4+4*i)) (c-(4+4*i))):=slV_page (o:=4+4*i) (by omega) hc
  have du:=hdu d (List.mem_of_getElem? hd1)
  have c1:=mput32_ok (σ:=σ.set X (some (.obj (bytesAV b')))) (B:=X) (o:=4+4*i) (n:=504-(4+4*i)) (c:=c-(4+4*i)) (v:=d) (ASt.set_same _ _ _) (by omega) (by omega) du
  obtain ⟨b3,hb3⟩:∃ b3,b3=spl b' (4+4*i) (le32 d):=⟨_,rfl⟩
  have l3:b3.length=504:=by rw [hb3,spl_len (by rw [le32_len];omega)];exact hb'
  rw [<-hb3,ASt.set_set] at c1
  have f3:∀ o n,o+n<=4+4*i\/4+4*i+4<=o->bat b3 o n=bat b' o n:=fun o n h=>by rw [hb3];exact bat_else (by rw [le32_len];omega) h
  have q3:bat b3 (4+4*i) 4=le32 d:=by rw [hb3];exact bat_same (by rw [le32_len];omega)
  have y0:b3[0]? = some 2:=by rw [hb3,get_else (by rw [le32_len];omega) (by omega)];exact h0
  have y1:b3[1]? = some (UInt8.ofNat L):=by rw [hb3,get_else (by rw [le32_len];omega) (by omega)];exact h1
  clear hb3
  have du':(d:Int)<=4294967295:=by omega
  simp (disch:=first|assumption|omega|(simp only [List.length_append,List.length_cons,List.length_nil];omega)) only [go_sem,hf,hlt',hg1,hs1,Int.toNat_natCast]
  refine c1.mono ?_
  rintro r σ1 ⟨rfl,rfl⟩
  simp (disch:=first|assumption|omega|(simp only [List.length_append,List.length_cons,List.length_nil];omega)) only [go_sem,hf]
  refine ⟨i+1,by omega,?_⟩
  rw [hJ]
  refine ⟨by omega,?_,b3,l3,y0,y1,fun j k' hj hk'=>?_,rfl⟩
  ·simp (disch:=first|assumption|omega|(simp only [List.length_append,List.length_cons,List.length_nil];omega)) only [go_sem,hf]
  ·by_cases hji:j=i
   ·subst hji
    rw [hd1] at hk'
    rw [<-Option.some.inj hk']
    exact q3
   ·rw [f3 _ _ (by omega)]
    exact hdd j k' (by omega) hk'
 ·have hlt':¬ (i:Int)<(L:Int):=by omega
  obtain rfl:i=L:=by omega
  simp (disch:=first|assumption|omega|(simp only [List.length_append,List.length_cons,List.length_nil];omega)) only [go_sem,hf,hlt',hn,hkl]
  generalize hW:ks.length=W at *
  obtain ⟨J2,hJ2⟩:∃ J:Nat->AFr->ASt->Prop,J=fun j a1 s2=>j<=W/\(a1 0 = .msl X 0 504 c/\a1 1 = .ptr n 0/\a1 87 = .sl k1 KS/\a1 88 = .int .i64 W/\a1 89 = .int .i64 j)/\∃ b',b'.length=504/\b'[0]? = some 2/\b'[1]? = some (UInt8.ofNat i) ∧
    (∀ (j d:Nat),ds[j]? = some d->bat b' (4+4*j) 4=le32 d)/\(∀ (t k:Nat),t<j->ks[t]? = some k->bat b' (164+8*t) 8=le64 k)/\s2=σ.set X (some (.obj (bytesAV b'))):=⟨_,rfl⟩
  refine wp_loop_on J2 (fun j=>W-j) 0 ?_ ?_
  ·rw [hJ2]
   refine ⟨Nat.zero_le _,?_,b',hb',h0,h1,fun j d hd'=>hdd j d (by have:=(List.getElem?_eq_some_iff.1 hd').1;omega) hd',fun j k hj=>absurd hj (Nat.not_lt_zero _),rfl⟩
   simp (disch:=first|assumption|omega|(simp only [List.length_append,List.length_cons,List.length_nil];omega)) only [go_sem,hf]
  intro j a2 s3 hj2
  rw [hJ2] at hj2
  obtain ⟨hjW,hf2,b1,hb1,h01,h11,hdd1,hkk,rfl⟩:=hj2
  by_cases hlt2:j<W
  ·have hlt2':(j:Int)<(W:Int):=by omega
   obtain ⟨k,hk1⟩:∃ k,ks[j]? = some k:=⟨_,List.getElem?_eq_getElem (by omega)⟩
   have hg1:=hkg j k hk1
   have hs1:slV (false,1) (.msl X 0 504 c) (164+8*(j:Int)) 504=some (.msl X (164+8*j) (504-(164+8*j)) (c-(164+8*j))):=slV_page (o:=164+8*j) (by omega) hc
   have ku:=hku k (List.mem_of_getElem? hk1)
   have c1:=mput64_ok (σ:=σ.set X (some (.obj (bytesAV b1)))) (B:=X) (o:=164+8*j) (n:=504-(164+8*j)) (c:=c-(164+8*j)) (v:=k) (ASt.set_same _ _ _) (by omega) (by omega) (by omega) ku
   obtain ⟨b3,hb3⟩:∃ b3,b3=spl b1 (164+8*j) (le64 k):=⟨_,rfl⟩
   have l3:b3.length=504:=by rw [hb3,spl_len (by rw [le64_len];omega)];exact hb1
   rw [<-hb3,ASt.set_set] at c1
   have f3:∀ o n,o+n<=164+8*j\/164+8*j+8<=o->bat b3 o n=bat b1 o n:=fun o n h=>by rw [hb3];exact bat_else (by rw [le64_len];omega) h
   have q3:bat b3 (164+8*j) 8=le64 k:=by rw [hb3];exact bat_same (by rw [le64_len];omega)
   have y0:b3[0]? = some 2:=by rw [hb3,get_else (by rw [le64_len];omega) (by omega)];exact h01
   have y1:b3[1]? = some (UInt8.ofNat i):=by rw [hb3,get_else (by rw [le64_len];omega) (by omega)];exact h11
   clear hb3
   simp (disch:=first|assumption|omega|(simp only [List.length_append,List.length_cons,List.length_nil];omega)) only [go_sem,hf2,hlt2',hg1,hs1,Int.toNat_natCast]
   refine c1.mono ?_
   rintro r σ1 ⟨rfl,rfl⟩
   simp (disch:=first|assumption|omega|(simp only [List.length_append,List.length_cons,List.length_nil];omega)) only [go_sem,hf2]
   refine ⟨j+1,by omega,?_⟩
   rw [hJ2]
   refine ⟨by omega,?_,b3,l3,y0,y1,fun t d hd'=>?_,fun t k' ht hk'=>?_,rfl⟩
   ·simp (disch:=first|assumption|omega|(simp only [List.length_append,List.length_cons,List.length_nil];omega)) only [go_sem,hf2]
   ·have:=(List.getElem?_eq_some_iff.1 hd').1
    rw [f3 _ _ (by omega)]
    exact hdd1 t d hd'
   ·by_cases htj:t=j
    ·subst htj
     rw [hk1] at hk'
     rw [<-Option.some.inj hk']
     exact q3
    ·rw [f3 _ _ (by omega)]
     exact hkk t k' (by omega) hk'
  ·have hlt2':¬ (j:Int)<(W:Int):=by omega
   obtain rfl:j=W:=by omega
   have hfin:TInner b1 ks ds:=⟨hb1,h01,by rw [hL];exact h11,by rw [hL,hW];exact hd,by rw [hL];exact h2,by rw [hL];exact hm,hku,hdu,fun t k hk'=>hkk t k (by have:=(List.getElem?_eq_some_iff.1 hk').1;omega) hk',hdd1⟩
   simp (disch:=first|assumption|omega|(simp only [List.length_append,List.length_cons,List.length_nil];omega)) only [go_sem,hf2,hlt2']
   exact retC_by (.refl _) (.refl _) ⟨rfl,b1,hfin,rfl⟩
set_option maxHeartbeats 2000000 in
theorem trdec_inner (hX:σ X=some (.obj (bytesAV b))) (hc:504<=c) (ht:TInner b ks ds) :
  ACalls Tryz.prog 86 [.msl X 0 504 c] σ fun r σ'=>∃ n x y,r = .tuple [.ptr n 0,.int .i64 0]/\InnerM σ σ' n x y ks ds:=by
 obtain ⟨hb,h0,h1,hn1,h2,hm,hku,hdu,hk,hd⟩:=ht
 have g0:(bytesAV b)[0]? = some (.int .u8 2):=by rw [bytesAV_get,h0];rfl
 have g1:(bytesAV b)[1]? = some (.int .u8 (ds.length:Int)):=by rw [bytesAV_get,h1];show some (AV.int .u8 ((UInt8.ofNat ds.length).toNat:Int))=_;rw [byte_small (by omega)]
 have hXb:=hX
 generalize hM:bytesAV b=M at hX g0 g1
 generalize hL:ds.length=L at *
 have hL':(L:Int)<=40:=by omega
 have hL2:(2:Int)<=(L:Int):=by omega
 have z0:(0:Int).toNat=0:=rfl
 have z1:(1:Int).toNat=1:=rfl
 refine a86 (by simp) ?_
 simp (disch:=first|assumption|omega|(simp only [List.length_append,List.length_cons,List.length_nil];omega)) only [go_sem,hX,g0,g1,z0,z1,Nat.zero_add]
 refine boxC_by rfl fun n hn=>?_
 simp (disch:=first|assumption|omega|(simp only [List.length_append,List.length_cons,List.length_nil];omega)) only [go_sem]
 have hXn:X≠n:=fun e=>by rw [e,hn] at hX;cases hX
 obtain ⟨J,hJ⟩:∃ J:Nat->AFr->ASt->Prop,J=fun i a1 s2=>i<=L/\(a1 0 = .msl X 0 504 c/\a1 7 = .ptr n 0/\a1 4 = .int .i64 L/\a1 76 = .int .i64 L/\a1 77 = .int .i64 i)/\∃ y,InnerM σ s2 n (.sl .full []) y [] (ds.take i):=⟨_,rfl⟩
 refine wp_loop_on J (fun i=>L-i) 0 ?_ ?_
 ·rw [hJ]
  refine ⟨Nat.zero_le _,?_,.sl .full [],⟨(Kept.refl σ).set hn,hn,ASt.set_same _ _ _,OwnR.nil _ _ _,OwnR.nil _ _ _,(by intro h;cases h),(by intro h;cases h),(by intro x h;cases h)⟩⟩
  simp (disch:=first|assumption|omega|(simp only [List.length_append,List.length_cons,List.length_nil];omega)) only [go_sem]
 intro i a1 s2 hj
 rw [hJ] at hj
 obtain ⟨hi,hf,y,hm2⟩:=hj
 have hs2n:=hm2.hn
 have hs2X:=hm2.kept _ _ hXb
 by_cases hlt:i<L
 ·have hlt':(i:Int)<(L:Int):=by omega
  obtain ⟨d,hd1⟩:∃ d,ds[i]? = some d:=⟨_,List.getElem?_eq_getElem (by omega)⟩
  have hs1:slV (false,1) (.msl X 0 504 c) (4+4*(i:Int)) 504=some (.msl X (4+4*i) (504-(4+4*i)) (c-(4+4*i))):=slV_page (o:=4+4*i) (by omega) hc
  have du:=hdu d (List.mem_of_getElem? hd1)
  have c1:=mu32_ok (c:=c-(4+4*i)) (n:=504-(4+4*i)) hs2X (hd i d hd1) (by omega) du
  have td:=take_snoc hd1
  have hld:(ds.take i).length<=10000:=by rw [List.length_take];omega
  have du':(d:Int)<=4294967295:=by omega
  simp (disch:=first|assumption|omega|(simp only [List.length_append,List.length_cons,List.length_nil];omega)) only [go_sem,hf,hlt',hs2n,hs1]
  refine c1.mono ?_
  rintro r s3 ⟨rfl,rfl⟩
  simp (disch:=first|assumption|omega|(simp only [List.length_append,List.length_cons,List.length_nil];omega)) only [go_sem,hs2n]
  refine hm2.hd.app (fun z hz=>hm2.kept.gone hz) hld fun y' X1 r hx1 hor hown=>?_
  have hX1σ:σ X1=none:=by
   rcases hor with h|h
   ·exact (hm2.hd.blk h).2
   ·exact hm2.kept.gone h
  have hX1n:n≠X1:=by
   rcases hor with h|h
   ·exact fun e=>hm2.nd (by rw [e];exact h)
   ·exact fun e=>by rw [<-e,hs2n] at h;cases h
  rw [td] at hown
  have m3:InnerM σ ((s3.set X1 (some r)).set n (some (.obj [.bool false,.sl .full [],.sl .full [],y']))) n (.sl .full []) y' [] (ds.take (i+1)):=by
   refine ⟨(hm2.kept.set hX1σ).set hm2.new,hm2.new,ASt.set_same _ _ _,OwnR.nil _ _ _,hown.set (by rw [hx1];intro h;exact hX1n (Option.some.inj h).symm),hm2.na,by rw [hx1];intro h;exact hX1n (Option.some.inj h).symm,?_⟩
   intro z hz
   cases hz
  obtain ⟨xc,xl,xa⟩:=hown.cell
  simp (disch:=first|assumption|omega|(simp only [List.length_append,List.length_cons,List.length_nil];omega)) only [go_sem,hf,hs2n,xc,xl]
  refine ⟨i+1,by omega,?_⟩
  rw [hJ]
  refine ⟨by omega,?_,y',m3⟩
  simp (disch:=first|assumption|omega|(simp only [List.length_append,List.length_cons,List.length_nil];omega)) only [go_sem,hf]
 ·have hlt':¬ (i:Int)<(L:Int):=by omega
  obtain rfl:i=L:=by omega
  rw [List.take_of_length_le (by omega)] at hm2
  simp (disch:=first|assumption|omega|(simp only [List.length_append,List.length_cons,List.length_nil];omega)) only [go_sem,hf,hlt']
  have eW:(i:Int)-1=((i-1:Nat):Int):=by omega
  rw [eW]
  obtain ⟨W,hW⟩:∃ W,i-1=W:=⟨_,rfl⟩
  rw [hW]
  obtain ⟨J2,hJ2⟩:∃ J:Nat->AFr->ASt->Prop,J=fun j a1 s2=>j<=W/\(a1 0 = .msl X 0 504 c/\a1 7 = .ptr n 0/\a1 98 = .int .i64 W/\a1 99 = .int .i64 j)/\∃ x y,InnerM σ s2 n x y (ks.take j) ds:=⟨_,rfl⟩
  refine wp_loop_on J2 (fun j=>W-j) 0 ?_ ?_
  ·rw [hJ2]
   refine ⟨Nat.zero_le _,?_,.sl .full [],y,hm2⟩
   simp (disch:=first|assumption|omega|(simp only [List.length_append,List.length_cons,List.length_nil];omega)) only [go_sem,hf]
  intro j a2 s4 hj2
  rw [hJ2] at hj2
  obtain ⟨hjW,hf2,x,y2,hm4⟩:=hj2
  have hs4n:=hm4.hn
  have hs4X:=hm4.kept _ _ hXb
  by_cases hlt2:j<W
  ·have hlt2':(j:Int)<(W:Int):=by omega
   obtain ⟨k,hk1⟩:∃ k,ks[j]? = some k:=⟨_,List.getElem?_eq_getElem (by omega)⟩
   have hs1:slV (false,1) (.msl X 0 504 c) (164+8*(j:Int)) 504=some (.msl X (164+8*j) (504-(164+8*j)) (c-(164+8*j))):=slV_page (o:=164+8*j) (by omega) hc
   have ku:=hku k (List.mem_of_getElem? hk1)
   have c1:=mu64_ok (c:=c-(164+8*j)) (n:=504-(164+8*j)) hs4X (hk j k hk1) (by omega) (by omega) ku
   have tk:=take_snoc hk1
   have hlk:(ks.take j).length<=10000:=by rw [List.length_take];omega
   simp (disch:=first|assumption|omega|(simp only [List.length_append,List.length_cons,List.length_nil];omega)) only [go_sem,hf2,hlt2',hs4n,hs1]
   refine c1.mono ?_
   rintro r s5 ⟨rfl,rfl⟩
   simp (disch:=first|assumption|omega|(simp only [List.length_append,List.length_cons,List.length_nil];omega)) only [go_sem,hs4n]
   refine hm4.ha.app (fun z hz=>hm4.kept.gone hz) hlk fun x' X1 r hx1 hor hown=>?_
   have hX1σ:σ X1=none:=by
    rcases hor with h|h
    ·exact (hm4.ha.blk h).2
    ·exact hm4.kept.gone h
   have hX1n:n≠X1:=by
    rcases hor with h|h
    ·exact fun e=>hm4.na (by rw [e];exact h)
    ·exact fun e=>by rw [<-e,hs4n] at h;cases h
   have hX1y:blkV y2≠some X1:=by
    rcases hor with h|h
    ·exact hm4.ad _ h
    ·intro hy
     obtain ⟨⟨cs,h2⟩,_⟩:=hm4.hd.blk hy
     rw [h] at h2;cases h2
   rw [tk] at hown
   have m5:InnerM σ ((s5.set X1 (some r)).set n (some (.obj [.bool false,x',.sl .full [],y2]))) n x' y2 (ks.take (j+1)) ds:=by
    refine ⟨(hm4.kept.set hX1σ).set hm4.new,hm4.new,ASt.set_same _ _ _,hown.set (by rw [hx1];intro h;exact hX1n (Option.some.inj h).symm),(hm4.hd.set hX1y).set hm4.nd,by rw [hx1];intro h;exact hX1n (Option.some.inj h).symm,hm4.nd,?_⟩
    intro z hz
    rw [hx1] at hz
    rw [<-Option.some.inj hz]
    exact hX1y
   obtain ⟨xc,xl,xa⟩:=hown.cell
   simp (disch:=first|assumption|omega|(simp only [List.length_append,List.length_cons,List.length_nil];omega)) only [go_sem,hf2,hs4n,xc,xl]
   refine ⟨j+1,by omega,?_⟩
   rw [hJ2]
   refine ⟨by omega,?_,x',y2,m5⟩
   simp (disch:=first|assumption|omega|(simp only [List.length_append,List.length_cons,List.length_nil];omega)) only [go_sem,hf2]
  ·have hlt2':¬ (j:Int)<(W:Int):=by omega
   obtain rfl:j=W:=by omega
   rw [List.take_of_length_le (by omega)] at hm4
   simp (disch:=first|assumption|omega|(simp only [List.length_append,List.length_cons,List.length_nil];omega)) only [go_sem,hf2,hlt2']
   exact retC_by (.refl _) (.refl _) ⟨n,x,y2,rfl,hm4⟩
end
end Go.A
namespace Go.A
open Go.Proofs
/-! 57: (*tabular/tree.Tree).load -/
def c57_12:ACode := .seq (.ops [ oq 4 (.mv (.v .nilp)),oq 5 (.mv (.v (.int .i64 0)))]) (.seq (.ops [ oq 9 (.mv (.t 0)),oq 10 (.nc (.t 9)),oq 11 (.fa 0 (.t 10)),oq 12 (.ld none (.t 11)),oq 13 (.mv (.t 1)),oe 14 (.call 76 [(.t 12),(.t 13)]),oq 8 (.mv (.t 14)),oq 15 (.ext 0 (.t 8)),oq 16 (.ext 1 (.t 8)),oq 6 (.mv (.t 15)),oq 7 (.mv (.t 16))]) (.seq (.seq (.ops [ oq 17 (.mv (.t 7)),oq 18 (.bin .neq (.t 17) (.v (.int .i64 0)))]) (.cond (.t 18) (.seq (.ops [ oq 19 (.mv (.t 7)),oq 4 (.mv (.v .nilp)),oq 5 (.mv (.t 19))]) .ret) .skip)) (.dfr 22 (.t 6) 20 (.seq (.ops [ oq 21 (.mv (.t 6)),oe 22 (.call 78 [(.t 21)]),oe 23 (.call 86 [(.t 22)]),oq 24 (.ext 0 (.t 23)),oq 25 (.ext 1 (.t 23)),oq 4 (.mv (.t 24)),oq 5 (.mv (.t 25))]) .ret))))
@[go_sem] def c57_12_wp:=wp_of c57_12.eq_1
def c57:AFn:=⟨26,[.t 4,.t 5],c57_12⟩
theorem c57_ok:compF Tryz.prog Tryz.f57=some c57:=by kernel_rfl
theorem a57 {args:List AV} {σ:ASt} {R:AV->ASt->Prop} (hl:args.length<=26) (h:c57_12.wp Tryz.prog (RetQ [.t 4,.t 5] R) (init args) σ):ACalls Tryz.prog 57 args σ R:=acalls_of Tryz.func57 c57_ok hl h
end Go.A
namespace Go.A
open Go.Proofs
inductive TN where
 | leaf (ks vs:List Nat)
 | inner (ks ds:List Nat)
def TN.ok:TN->Prop
 | .leaf ks vs=>vs.length=ks.length/\ks.length<=30/\u64L ks/\u64L vs
 | .inner ks ds=>ds.length=ks.length+1/\2<=ds.length/\ds.length<=40/\u64L ks/\u32L ds
def TPg (b:List UInt8):TN->Prop
 | .leaf ks vs=>TLeaf b ks vs
 | .inner ks ds=>TInner b ks ds
def NodeR (r:Role):TN->Prop
 | .leaf ks vs=>∃ k1 k2 k3,r = .obj [.bool true,.sl k1 (kv .u64 ks),.sl k2 (kv .u64 vs),.sl k3 []]
 | .inner ks ds=>∃ k1 k2 k3,r = .obj [.bool false,.sl k1 (kv .u64 ks),.sl k2 [],.sl k3 (kv .i64 ds)]
def NodeOf (σ:ASt) (n:Nat) (nd:TN):Prop:=∃ r,σ n=some r/\NodeR r nd
theorem TPg.len {b:List UInt8} {nd:TN} (h:TPg b nd):b.length=504:=by
 cases nd with
 | leaf=>exact TLeaf.len h
 | inner=>exact TInner.len h
theorem trenc_ok {σ:ASt} {X n c:Nat} {b:List UInt8} {nd:TN} (hX:σ X=some (.obj (bytesAV b))) (hb:b.length=504) (hc:504<=c) (hn:NodeOf σ n nd) (hnX:n≠X) (ho:nd.ok) :
  ACalls Tryz.prog 51 [.msl X 0 504 c,.ptr n 0] σ fun r σ'=>r = .tuple []/\∃ b',TPg b' nd/\σ'=σ.set X (some (.obj (bytesAV b'))):=by
 obtain ⟨r,hn,hr⟩:=hn
 cases nd with
 | leaf ks vs=>
   obtain ⟨k1,k2,k3,rfl⟩:=hr
   obtain ⟨o1,o2,o3,o4⟩:=ho
   exact trenc_leaf (ds := []) hX hb hc ⟨k1,k2,k3,hn⟩ hnX o1 o2 o3 o4
 | inner ks ds=>
   obtain ⟨k1,k2,k3,rfl⟩:=hr
   obtain ⟨o1,o2,o3,o4,o5⟩:=ho
   exact trenc_inner (vs := []) hX hb hc ⟨k1,k2,k3,hn⟩ hnX o1 o2 o3 o4 o5
noncomputable def addB (base σ:ASt) (P:Nat->Prop):ASt:=open Classical in fun z=>if P z then σ z else base z
theorem addB_in {base σ:ASt} {P:Nat->Prop} {z:Nat} (h:P z):addB base σ P z=σ z:=if_pos h
theorem addB_out {base σ:ASt} {P:Nat->Prop} {z:Nat} (h:¬ P z):addB base σ P z=base z:=if_neg h
theorem Beside.grow {base σ σ':ASt} {P:Nat->Prop} (he:∀ x r,base x=some r->σ x=some r) (hk:Kept σ σ') (hP:∀ z,P z->σ z=none):Beside base σ (addB base σ' P) σ':=by
 refine ⟨fun x r _ hx=>hk x r hx,fun x r hx=>?_,fun x r hx hy=>?_⟩
 ·by_cases h:P x
  ·rw [addB_in h] at hx;exact hx
  ·rw [addB_out h] at hx;exact hk x r (he x r hx)
 ·by_cases h:P x
  ·rw [hP x h] at hy;cases hy
  ·rw [addB_out h];exact hx
section
variable {base σ σ':ASt} {p k page fa xa c t root:Nat} {m:Int} {pg:Pgs} {dirty:Bool} {b:List UInt8} {nd:TN}
theorem PinAt.grow (h:PinAt base σ p m k pg page fa xa c dirty) {P:Nat->Prop} (hk:Kept σ σ') (hP:∀ z,P z->σ z=none):PinAt (addB base σ' P) σ' p m k pg page fa xa c dirty:=
 h.frame (Beside.grow (fun x r=>h.at) hk hP) (by
  have hc:=h.ck
  unfold CkT at hc ⊢
  rw [addB_out (fun hp=>absurd ((hP _ hp).symm.trans (h.at hc)) (by simp))]
  exact hc)
def nodeB (n:Nat) (x y:AV):Nat->Prop:=fun z=>z=n\/blkV x=some z\/blkV y=some z
def Only (base base':ASt) (P:Nat->Prop):Prop:=∀ z,¬ P z->base' z=base z
theorem pset_id {g:Pgs} {q:Nat} {v:Option (List UInt8)} (h:g q=v):pset g q v=g:=by
 funext z
 unfold pset
 split
 ·rename_i e;rw [e,h]
 ·rfl
theorem set_none_id {base:ASt} {x:Nat} {r:Option Role} (h:base x=none):(base.set x r).set x none=base:=by
 funext z
 by_cases hz:z=x
 ·rw [hz,ASt.set_same,h]
 ·rw [ASt.set_ne hz,ASt.set_ne hz]
theorem addB_drop {base σ:ASt} {P:Nat->Prop} {x:Nat} {r:Option Role} (h:base x=none) (hP:¬ P x):(addB (base.set x r) σ P).set x none=addB base σ P:=by
 funext z
 by_cases hz:z=x
 ·rw [hz,ASt.set_same,addB_out hP,h]
 ·rw [ASt.set_ne hz]
  by_cases hp:P z
  ·rw [addB_in hp,addB_in hp]
  ·rw [addB_out hp,addB_out hp,ASt.set_ne hz]
set_option maxHeartbeats 1000000 in
theorem trload_leafM {ks vs:List Nat} (h:PoolAt base σ p m k pg) (ht:base t=some (.obj [.ptr p 0,.int .i64 root])) (hq:pg page=some b) (hl:TLeaf b ks vs) :
  ACalls Tryz.prog 57 [.ptr t 0,.int .i64 page] σ fun r σ'=>∃ n x y base',r = .tuple [.ptr n 0,.int .i64 0]/\LeafM base base' n x y ks vs/\Only base base' (nodeB n x y)/\PoolAt base' σ' p m k pg:=by
 have hts:=h.at ht
 refine a57 (by simp) ?_
 simp (disch:=first|assumption|omega|(simp only [List.length_append,List.length_cons,List.length_nil];omega)) only [go_sem,hts]
 refine (plpin_ok h hq).mono ?_
 rintro v σ1 ⟨fa,xa,c,dirty,rfl,hxa,hck,hc,h1⟩
 have hX:=h1.at (ASt.set_same base xa (some (.obj (bytesAV b))))
 have hbt:=plbytes_ok h1
 have hdec:=trdec_leaf hX hc hl
 simp (disch:=first|assumption|omega|(simp only [List.length_append,List.length_cons,List.length_nil];omega)) only [go_sem]
 refine hbt.mono ?_
 rintro v σ2 ⟨rfl,rfl⟩
 simp (disch:=first|assumption|omega|(simp only [List.length_append,List.length_cons,List.length_nil];omega)) only [go_sem]
 refine hdec.mono ?_
 rintro v σ3 ⟨n,x,y,rfl,hm⟩
 have hP:∀ z,nodeB n x y z->σ2 z=none:=by
  rintro z (rfl|hz|hz)
  ·exact hm.new
  ·exact (hm.ha.blk hz).2
  ·exact (hm.hb.blk hz).2
 have hPx:¬ nodeB n x y xa:=fun hp=>by rw [hP _ hp] at hX;cases hX
 have h3:=h1.grow (P:=nodeB n x y) hm.kept hP
 have hbx:addB (base.set xa (some (.obj (bytesAV b)))) σ3 (nodeB n x y) xa=some (.obj (bytesAV b)):=by rw [addB_out hPx];exact ASt.set_same _ _ _
 have hun:=plunpin_d h3 hbx hl.len (.inr hq) hck
 rw [addB_drop hxa hPx,pset_id hq] at hun
 have hin:∀ z,nodeB n x y z->base z=none:=fun z hz=>by
  cases hc2:base z with
  | none=>rfl
  | some r=>
    have:z≠xa:=fun e=>hPx (e▸hz)
    have:=h1.at ((ASt.set_ne (σ:=base) (r:=some (.obj (bytesAV b))) this).trans hc2)
    rw [hP z hz] at this;cases this
 have hm2:LeafM base (addB base σ3 (nodeB n x y)) n x y ks vs:=by
  refine ⟨fun z r hz=>?_,hin n (.inl rfl),by rw [addB_in (.inl rfl)];exact hm.hn,?_,?_,hm.na,hm.nb,hm.ab⟩
  ·rw [addB_out (fun hp=>by rw [hin z hp] at hz;cases hz)];exact hz
  ·rcases hm.ha with ⟨rfl,rfl⟩|⟨X,cc,R,rfl,q1,q2,q3⟩
   ·exact .inl ⟨rfl,rfl⟩
   ·exact .inr ⟨X,cc,R,rfl,by rw [addB_in (.inr (.inl rfl))];exact q1,hin X (.inr (.inl rfl)),q3⟩
  ·rcases hm.hb with ⟨rfl,rfl⟩|⟨X,cc,R,rfl,q1,q2,q3⟩
   ·exact .inl ⟨rfl,rfl⟩
   ·exact .inr ⟨X,cc,R,rfl,by rw [addB_in (.inr (.inr rfl))];exact q1,hin X (.inr (.inr rfl)),q3⟩
 simp (disch:=first|assumption|omega|(simp only [List.length_append,List.length_cons,List.length_nil];omega)) only [go_sem]
 refine hun.mono ?_
 rintro v σ4 ⟨rfl,h4⟩
 exact retC_by (.refl _) (.refl _) ⟨n,x,y,_,rfl,hm2,fun z hz=>addB_out hz,h4⟩
set_option maxHeartbeats 1000000 in
theorem trload_innerM {ks ds:List Nat} (h:PoolAt base σ p m k pg) (ht:base t=some (.obj [.ptr p 0,.int .i64 root])) (hq:pg page=some b) (hl:TInner b ks ds) :
  ACalls Tryz.prog 57 [.ptr t 0,.int .i64 page] σ fun r σ'=>∃ n x y base',r = .tuple [.ptr n 0,.int .i64 0]/\InnerM base base' n x y ks ds/\Only base base' (nodeB n x y)/\PoolAt base' σ' p m k pg:=by
 have hts:=h.at ht
 refine a57 (by simp) ?_
 simp (disch:=first|assumption|omega|(simp only [List.length_append,List.length_cons,List.length_nil];omega)) only [go_sem,hts]
 refine (plpin_ok h hq).mono ?_
 rintro v σ1 ⟨fa,xa,c,dirty,rfl,hxa,hck,hc,h1⟩
 have hX:=h1.at (ASt.set_same base xa (some (.obj (bytesAV b))))
 have hbt:=plbytes_ok h1
 have hdec:=trdec_inner hX hc hl
 simp (disch:=first|assumption|omega|(simp only [List.length_append,List.length_cons,List.length_nil];omega)) only [go_sem]
 refine hbt.mono ?_
 rintro v σ2 ⟨rfl,rfl⟩
 simp (disch:=first|assumption|omega|(simp only [List.length_append,List.length_cons,List.length_nil];omega)) only [go_sem]
 refine hdec.mono ?_
 rintro v σ3 ⟨n,x,y,rfl,hm⟩
 have hP:∀ z,nodeB n x y z->σ2 z=none:=by
  rintro z (rfl|hz|hz)
  ·exact hm.new
  ·exact (hm.ha.blk hz).2
  ·exact (hm.hd.blk hz).2
 have hPx:¬ nodeB n x y xa:=fun hp=>by rw [hP _ hp] at hX;cases hX
 have h3:=h1.grow (P:=nodeB n x y) hm.kept hP
 have hbx:addB (base.set xa (some (.obj (bytesAV b)))) σ3 (nodeB n x y) xa=some (.obj (bytesAV b)):=by rw [addB_out hPx];exact ASt.set_same _ _ _
 have hun:=plunpin_d h3 hbx hl.len (.inr hq) hck
 rw [addB_drop hxa hPx,pset_id hq] at hun
 have hin:∀ z,nodeB n x y z->base z=none:=fun z hz=>by
  cases hc2:base z with
  | none=>rfl
  | some r=>
    have:z≠xa:=fun e=>hPx (e▸hz)
    have:=h1.at ((ASt.set_ne (σ:=base) (r:=some (.obj (bytesAV b))) this).trans hc2)
    rw [hP z hz] at this;cases this
 have hm2:InnerM base (addB base σ3 (nodeB n x y)) n x y ks ds:=by
  refine ⟨fun z r hz=>?_,hin n (.inl rfl),by rw [addB_in (.inl rfl)];exact hm.hn,?_,?_,hm.na,hm.nd,hm.ad⟩
  ·rw [addB_out (fun hp=>by rw [hin z hp] at hz;cases hz)];exact hz
  ·rcases hm.ha with ⟨rfl,rfl⟩|⟨X,cc,R,rfl,q1,q2,q3⟩
   ·exact .inl ⟨rfl,rfl⟩
   ·exact .inr ⟨X,cc,R,rfl,by rw [addB_in (.inr (.inl rfl))];exact q1,hin X (.inr (.inl rfl)),q3⟩
  ·rcases hm.hd with ⟨rfl,rfl⟩|⟨X,cc,R,rfl,q1,q2,q3⟩
   ·exact .inl ⟨rfl,rfl⟩
   ·exact .inr ⟨X,cc,R,rfl,by rw [addB_in (.inr (.inr rfl))];exact q1,hin X (.inr (.inr rfl)),q3⟩
 simp (disch:=first|assumption|omega|(simp only [List.length_append,List.length_cons,List.length_nil];omega)) only [go_sem]
 refine hun.mono ?_
 rintro v σ4 ⟨rfl,h4⟩
 exact retC_by (.refl _) (.refl _) ⟨n,x,y,_,rfl,hm2,fun z hz=>addB_out hz,h4⟩
end
end Go.A
namespace Go.A
open Go.Proofs
/-! 63: (*tabular/tree.Tree).fresh -/
def c63_14:ACode := .seq (.ops [ oq 4 (.mv (.v (.int .i64 0))),oq 5 (.mv (.v (.int .i64 0)))]) (.seq (.ops [ oq 9 (.mv (.t 0)),oq 10 (.nc (.t 9)),oq 11 (.fa 0 (.t 10)),oq 12 (.ld none (.t 11)),oe 13 (.call 21 [(.t 12)]),oq 8 (.mv (.t 13)),oq 14 (.ext 0 (.t 8)),oq 15 (.ext 1 (.t 8)),oq 6 (.mv (.t 14)),oq 7 (.mv (.t 15))]) (.seq (.seq (.ops [ oq 16 (.mv (.t 7)),oq 17 (.bin .neq (.t 16) (.v (.int .i64 0)))]) (.cond (.t 17) (.seq (.ops [ oq 18 (.mv (.t 7)),oq 4 (.mv (.v (.int .i64 0))),oq 5 (.mv (.t 18))]) .ret) .skip)) (.dfr 22 (.t 6) 19 (.seq (.ops [ oq 20 (.mv (.t 6)),oe 21 (.call 24 [(.t 20)]),oq 22 (.mv (.t 1)),oe 23 (.call 51 [(.t 21),(.t 22)])]) (.seq (.ops [ oq 24 (.mv (.t 6)),oe 25 (.call 27 [(.t 24)]),oq 4 (.mv (.t 25)),oq 5 (.mv (.v (.int .i64 0)))]) .ret)))))
@[go_sem] def c63_14_wp:=wp_of c63_14.eq_1
def c63:AFn:=⟨26,[.t 4,.t 5],c63_14⟩
theorem c63_ok:compF Tryz.prog Tryz.f63=some c63:=by kernel_rfl
theorem a63 {args:List AV} {σ:ASt} {R:AV->ASt->Prop} (hl:args.length<=26) (h:c63_14.wp Tryz.prog (RetQ [.t 4,.t 5] R) (init args) σ):ACalls Tryz.prog 63 args σ R:=acalls_of Tryz.func63 c63_ok hl h
/-! 64: (*tabular/tree.Tree).store -/
def c64_14:ACode := .seq (.ops [ oq 6 (.mv (.v (.int .i64 0)))]) (.seq (.ops [ oq 10 (.mv (.t 0)),oq 11 (.nc (.t 10)),oq 12 (.fa 0 (.t 11)),oq 13 (.ld none (.t 12)),oq 14 (.mv (.t 1)),oe 15 (.call 76 [(.t 13),(.t 14)]),oq 9 (.mv (.t 15)),oq 16 (.ext 0 (.t 9)),oq 17 (.ext 1 (.t 9)),oq 7 (.mv (.t 16)),oq 8 (.mv (.t 17))]) (.seq (.seq (.ops [ oq 18 (.mv (.t 8)),oq 19 (.bin .neq (.t 18) (.v (.int .i64 0)))]) (.cond (.t 19) (.seq (.ops [ oq 20 (.mv (.t 8)),oq 6 (.mv (.t 20))]) .ret) .skip)) (.dfr 22 (.t 7) 21 (.seq (.ops [ oq 22 (.mv (.t 7)),oe 23 (.call 24 [(.t 22)]),oq 24 (.mv (.t 2)),oe 25 (.call 51 [(.t 23),(.t 24)])]) (.seq (.ops [ oq 6 (.mv (.v (.int .i64 0)))]) .ret)))))
@[go_sem] def c64_14_wp:=wp_of c64_14.eq_1
def c64:AFn:=⟨26,[.t 6],c64_14⟩
theorem c64_ok:compF Tryz.prog Tryz.f64=some c64:=by kernel_rfl
theorem a64 {args:List AV} {σ:ASt} {R:AV->ASt->Prop} (hl:args.length<=26) (h:c64_14.wp Tryz.prog (RetQ [.t 6] R) (init args) σ):ACalls Tryz.prog 64 args σ R:=acalls_of Tryz.func64 c64_ok hl h
end Go.A
end
