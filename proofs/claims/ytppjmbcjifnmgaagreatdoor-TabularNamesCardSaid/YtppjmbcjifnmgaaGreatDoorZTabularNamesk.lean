/- Part 11 of what TabularNames leans on: CodeNyc Nyc Hd Hf CodeKl Kl Gp Nyd CodeNye Nye Za Mja Mj. -/
import Derived.Test.YtppjmbcjifnmgaaGreatDoorProg
import Derived.KernelRfl
import Derived.Lib.MapLaws
import Derived.Lib.RuneCount
import Derived.Test.YtppjmbcjifnmgaaGreatDoorRows
import Derived.ProofKit
import Derived.LaidMore
import Derived.OpenShut
import Derived.Stop.LaidErr
import Derived.MakeChecks
import Derived.SevenTiedAt
import Derived.Lay
import Derived.ChangeArms
import Derived.Lib.LaidU8
import Derived.Lib.LaidTab
import Derived.Test.YtppjmbcjifnmgaaGreatDoorZTabularNamesj
set_option linter.defProp false
set_option linter.unusedSimpArgs false
set_option linter.unusedVariables false
set_option maxRecDepth 100000
namespace Go.A
open Go.Proofs
/-! 7: tabular/seq.New -/
def c7_24:ACode := .seq (.ops [ oq 2 (.mv (.v .nilp)),oq 3 (.mv (.v (.int .i64 0)))]) (.seq (.ops [ oq 8 (.mv (.t 0)),oe 9 (.call 20 [(.t 8)]),oq 7 (.mv (.t 9)),oq 10 (.ext 0 (.t 7)),oq 11 (.ext 1 (.t 7)),oq 4 (.mv (.t 10)),oq 5 (.mv (.t 11))]) (.seq (.seq (.ops [ oq 12 (.mv (.t 5)),oq 13 (.bin .neq (.t 12) (.v (.int .i64 0)))]) (.cond (.t 13) (.seq (.ops [ oq 14 (.mv (.t 5)),oq 2 (.mv (.v .nilp)),oq 3 (.mv (.t 14))]) .ret) .skip)) (.seq (.ops [ oq 16 (.mv (.t 0)),oe 17 (.call 21 [(.t 16)]),oq 15 (.mv (.t 17)),oq 18 (.ext 0 (.t 15)),oq 19 (.ext 1 (.t 15)),oq 6 (.mv (.t 18)),oq 5 (.mv (.t 19))]) (.seq (.seq (.ops [ oq 20 (.mv (.t 5)),oq 21 (.bin .neq (.t 20) (.v (.int .i64 0)))]) (.cond (.t 21) (.seq (.ops [ oq 22 (.mv (.t 5)),oq 2 (.mv (.v .nilp)),oq 3 (.mv (.t 22))]) .ret) .skip)) (.dfr 22 (.t 6) 23 (.seq (.ops [ oq 24 (.mv (.t 6)),oe 25 (.call 24 [(.t 24)]),oq 26 (.build [(.bool false),(.int .i64 0),(.sl .full []),(.sl .full []),(.sl .full [])] [(0,1,(.v (.bool true)))]),oe 27 (.box (.t 26)),oe 28 (.call 23 [(.t 25),(.t 27)])]) (.seq (.ops [ oq 29 (.mv (.t 6)),oq 32 (.mv (.t 4)),oe 30 (.call 24 [(.t 29)]),oq 31 (.slfrom (false,1) (.t 30) (.v (.int .i64 496))),oe 33 (.call 26 [(.t 32)]),oq 34 (.conv .u32 (.t 33)),oe 35 (.call 25 [(.t 31),(.t 34)])]) (.seq (.ops [ oq 36 (.mv (.t 0)),oq 37 (.mv (.t 6)),oe 38 (.call 27 [(.t 37)]),oq 39 (.mv (.t 4)),oq 40 (.build [.nilp,(.int .i64 0),.nilp] [(0,1,(.t 36)),(1,1,(.t 38)),(2,1,(.t 39))]),oe 41 (.box (.t 40)),oq 2 (.mv (.t 41)),oq 3 (.mv (.v (.int .i64 0)))]) .ret))))))))
@[go_sem] def c7_24_wp:=wp_of c7_24.eq_1
def c7:AFn:=⟨42,[.t 2,.t 3],c7_24⟩
theorem c7_ok:compF Tryz.prog Tryz.f7=some c7:=by kernel_rfl
theorem a7 {args:List AV} {σ:ASt} {R:AV->ASt->Prop} (hl:args.length<=42) (h:c7_24.wp Tryz.prog (RetQ [.t 2,.t 3] R) (init args) σ):ACalls Tryz.prog 7 args σ R:=acalls_of Tryz.func7 c7_ok hl h
/-! 20: tabular/tree.New -/
def c20_16:ACode := .seq (.ops [ oq 2 (.mv (.v .nilp)),oq 3 (.mv (.v (.int .i64 0)))]) (.seq (.ops [ oq 8 (.mv (.t 0)),oe 9 (.call 21 [(.t 8)]),oq 7 (.mv (.t 9)),oq 10 (.ext 0 (.t 7)),oq 11 (.ext 1 (.t 7)),oq 4 (.mv (.t 10)),oq 5 (.mv (.t 11))]) (.seq (.seq (.ops [ oq 12 (.mv (.t 5)),oq 13 (.bin .neq (.t 12) (.v (.int .i64 0)))]) (.cond (.t 13) (.seq (.ops [ oq 14 (.mv (.t 5)),oq 2 (.mv (.v .nilp)),oq 3 (.mv (.t 14))]) .ret) .skip)) (.dfr 22 (.t 4) 15 (.seq (.ops [ oq 16 (.mv (.t 0)),oq 17 (.mv (.t 4)),oe 18 (.call 27 [(.t 17)]),oq 19 (.build [.nilp,(.int .i64 0)] [(0,1,(.t 16)),(1,1,(.t 18))]),oe 20 (.box (.t 19)),oq 6 (.mv (.t 20))]) (.seq (.ops [ oq 21 (.mv (.t 4)),oe 22 (.call 24 [(.t 21)]),oq 23 (.build [(.bool false),(.sl .full []),(.sl .full []),(.sl .full [])] [(0,1,(.v (.bool true)))]),oe 24 (.box (.t 23)),oe 25 (.call 51 [(.t 22),(.t 24)])]) (.seq (.ops [ oq 26 (.mv (.t 6)),oq 2 (.mv (.t 26)),oq 3 (.mv (.v (.int .i64 0)))]) .ret))))))
@[go_sem] def c20_16_wp:=wp_of c20_16.eq_1
def c20:AFn:=⟨27,[.t 2,.t 3],c20_16⟩
theorem c20_ok:compF Tryz.prog Tryz.f20=some c20:=by kernel_rfl
theorem a20 {args:List AV} {σ:ASt} {R:AV->ASt->Prop} (hl:args.length<=27) (h:c20_16.wp Tryz.prog (RetQ [.t 2,.t 3] R) (init args) σ):ACalls Tryz.prog 20 args σ R:=acalls_of Tryz.func20 c20_ok hl h
/-! 26: (*tabular/tree.Tree).Root -/
def c26_3:ACode := .seq (.ops [ oq 2 (.mv (.v (.int .i64 0)))]) (.seq (.ops [ oq 3 (.mv (.t 0)),oq 4 (.nc (.t 3)),oq 5 (.fa 1 (.t 4)),oq 6 (.ld none (.t 5)),oq 2 (.mv (.t 6))]) .ret)
@[go_sem] def c26_3_wp:=wp_of c26_3.eq_1
def c26:AFn:=⟨7,[.t 2],c26_3⟩
theorem c26_ok:compF Tryz.prog Tryz.f26=some c26:=by kernel_rfl
theorem a26 {args:List AV} {σ:ASt} {R:AV->ASt->Prop} (hl:args.length<=7) (h:c26_3.wp Tryz.prog (RetQ [.t 2] R) (init args) σ):ACalls Tryz.prog 26 args σ R:=acalls_of Tryz.func26 c26_ok hl h
end Go.A
section
attribute [local go_sem] reduceCtorEq Nat.reduceEqDiff Nat.reduceAdd Nat.reduceSub Nat.reduceMul Nat.reduceLeDiff Int.reduceLT Int.reduceLE Int.reduceEq Int.reduceNeg Int.reduceAdd Int.reduceSub Int.reduceMul true_imp_iff forall_const Nat.mul_one Int.reduceToNat Nat.reducePow Int.reducePow Bool.true_and Bool.false_and Bool.and_false
attribute [local go_sem ↓] reduceIte
namespace Go.A
open Go.Proofs
section
variable {base σ:ASt} {p k t root troot s a b:Nat} {m:Int} {pg pg':Pgs} {T T':Nat->Prop} {M M':Nat->Option Nat} {A B:List Nat}
set_option maxHeartbeats 1000000 in
theorem trnew_ok (h:PoolAt base σ p m k pg) (hroom:(k:Int)<m) :
  ACalls Tryz.prog 20 [.ptr p 0] σ fun w σ'=>∃ (tb q:Nat) (b':List UInt8),w = .tuple [.ptr tb 0,.int .i64 0]/\base tb=none/\(pg q=none/\1<=q/\q<60000)/\TLeaf b' [] []/\PoolAt (base.set tb (some (.obj [.ptr p 0,.int .i64 q]))) σ' p m (k+1) (pset pg q (some b')):=by
 refine a20 (by simp) ?_
 simp (disch:=first|assumption|omega|(simp only [List.length_append,List.length_cons,List.length_nil];omega)) only [go_sem]
 refine (pltake_ok h hroom).mono ?_
 rintro v σ1 ⟨q,fa,xa,c,dirty,rfl,hpq,hq1,hq2,hxa,hck,hc,h1⟩
 have hpage:=plpage_ok h1
 simp (disch:=first|assumption|omega|(simp only [List.length_append,List.length_cons,List.length_nil];omega)) only [go_sem]
 refine hpage.mono ?_
 rintro v σ1' ⟨rfl,rfl⟩
 simp (disch:=first|assumption|omega|(simp only [List.length_append,List.length_cons,List.length_nil];omega)) only [go_sem]
 refine boxC_by rfl fun tb htb=>?_
 have hbt:(base.set xa (some (.obj (bytesAV (List.replicate 504 0))))) tb=none:=by
  cases hc:(base.set xa (some (.obj (bytesAV (List.replicate 504 0))))) tb with
  | none=>rfl
  | some r=>rw [h1.at hc] at htb;cases htb
 have htx:tb≠xa:=fun e=>by rw [e,ASt.set_same] at hbt;cases hbt
 have hb0:base tb=none:=by rw [ASt.set_ne htx] at hbt;exact hbt
 have h2:=h1.set (x:=tb) (some (.obj [.ptr p 0,.int .i64 q])) (.inr htb) (ck_ne h1.ck hbt)
 simp (disch:=first|assumption|omega|(simp only [List.length_append,List.length_cons,List.length_nil];omega)) only [go_sem]
 refine (pledit_ok h2).mono ?_
 rintro v σ2 ⟨rfl,h3⟩
 simp (disch:=first|assumption|omega|(simp only [List.length_append,List.length_cons,List.length_nil];omega)) only [go_sem]
 refine boxC_by rfl fun n hn=>?_
 have hbn:((base.set xa (some (.obj (bytesAV (List.replicate 504 0))))).set tb (some (.obj [.ptr p 0,.int .i64 q]))) n=none:=by
  cases hc:((base.set xa (some (.obj (bytesAV (List.replicate 504 0))))).set tb (some (.obj [.ptr p 0,.int .i64 q]))) n with
  | none=>rfl
  | some r=>rw [h3.at hc] at hn;cases hn
 have hnt:n≠tb:=fun e=>by rw [e,ASt.set_same] at hbn;cases hbn
 have hnx:n≠xa:=fun e=>by rw [e,ASt.set_ne (Ne.symm htx),ASt.set_same] at hbn;cases hbn
 have hn0:base n=none:=by rw [ASt.set_ne hnt,ASt.set_ne hnx] at hbn;exact hbn
 have h4:=h3.set (x:=n) (some (.obj [.bool true,.sl .full [],.sl .full [],.sl .full []])) (.inr hn) (ck_ne h3.ck hbn)
 have hX:=h4.at (x:=xa) ((ASt.set_ne (Ne.symm hnx)).trans ((ASt.set_ne (Ne.symm htx)).trans (ASt.set_same _ _ _)))
 have hN:=h4.at (ASt.set_same _ n _)
 simp (disch:=first|assumption|omega|(simp only [List.length_append,List.length_cons,List.length_nil];omega)) only [go_sem]
 refine (trenc_ok (nd := .leaf [] []) hX List.length_replicate hc ⟨_,hN,⟨.full,.full,.full,rfl⟩⟩ hnx ⟨rfl,by simp,fun x hx=>by simp at hx,fun x hx=>by simp at hx⟩).mono ?_
 rintro v σ3 ⟨rfl,b',hb',rfl⟩
 have h5:=h4.set (x:=xa) (some (.obj (bytesAV b'))) (.inl (by rw [ASt.set_ne (Ne.symm hnx),ASt.set_ne (Ne.symm htx),ASt.set_same];simp)) hck
 have hun:=plunpin_d h5 (ASt.set_same _ _ _) hb'.len (.inl rfl) hck
 have hpp:pset (pset pg q (some (List.replicate 504 0))) q (some b')=pset pg q (some b'):=by
  funext z
  unfold pset
  split<;>rfl
 rw [hpp] at hun
 simp (disch:=first|assumption|omega|(simp only [List.length_append,List.length_cons,List.length_nil];omega)) only [go_sem]
 refine hun.mono ?_
 rintro v σ4 ⟨rfl,h6⟩
 refine retC_by (.refl _) (.refl _) ⟨tb,q,b',rfl,hb0,⟨hpq,hq1,hq2⟩,hb',h6.less (fun x r hx=>?_) (h.ck.away (ck_ne h.ck hb0))⟩
 by_cases e1:x=tb
 ·subst e1
  rw [ASt.set_same] at hx
  rw [ASt.set_ne htx,ASt.set_ne htx,ASt.set_ne (Ne.symm hnt),ASt.set_same];exact hx
 ·rw [ASt.set_ne e1] at hx
  have e2:x≠xa:=fun e=>by rw [e,hxa] at hx;cases hx
  have e3:x≠n:=fun e=>by rw [e,hn0] at hx;cases hx
  rw [ASt.set_ne e2,ASt.set_ne e2,ASt.set_ne e3,ASt.set_ne e1,ASt.set_ne e2];exact hx
theorem trroot_ok (ht:σ t=some (.obj [.ptr p 0,.int .i64 troot])):ACalls Tryz.prog 26 [.ptr t 0] σ fun w σ'=>w = .int .i64 troot/\σ'=σ:=by
 refine a26 (by simp) ?_
 simp (disch:=first|assumption|omega|(simp only [List.length_append,List.length_cons,List.length_nil];omega)) only [go_sem,ht]
 exact retC_by (.refl _) (.refl _) ⟨rfl,rfl⟩
set_option maxHeartbeats 2000000 in
theorem sqnew_ok (h:PoolAt base σ p m k pg) (hroom:(k:Int)+2<=m) :
  ACalls Tryz.prog 7 [.ptr p 0] σ fun w σ'=>∃ (s t root troot:Nat) (base':ASt) (pg':Pgs) (T:Nat->Prop) (M:Nat->Option Nat),w = .tuple [.ptr s 0,.int .i64 0]/\Kept base base'/\base' s=some (.obj [.ptr p 0,.int .i64 root,.ptr t 0])/\base' t=some (.obj [.ptr p 0,.int .i64 troot])/\SqOne pg' root troot T M []/\PoolAt base' σ' p m (k+2) pg':=by
 refine a7 (by simp) ?_
 simp (disch:=first|assumption|omega|(simp only [List.length_append,List.length_cons,List.length_nil];omega)) only [go_sem]
 refine (trnew_ok h (by omega)).mono ?_
 rintro v σ0 ⟨tb,tq,tbb,rfl,htb,⟨tq1,tq2,tq3⟩,htl,h0⟩
 have hbtb:=ASt.set_same base tb (some (.obj [.ptr p 0,.int .i64 tq]))
 have hkb:Kept base (base.set tb (some (.obj [.ptr p 0,.int .i64 tq]))):=(Kept.refl base).set htb
 generalize base.set tb (some (.obj [.ptr p 0,.int .i64 tq]))=base2 at *
 simp (disch:=first|assumption|omega|(simp only [List.length_append,List.length_cons,List.length_nil];omega)) only [go_sem]
 refine (pltake_ok h0 (by omega)).mono ?_
 rintro v σ1 ⟨q,fa,xa,c,dirty,rfl,hpq,hq1,hq2,hxa,hck,hc,h1⟩
 simp (disch:=first|assumption|omega|(simp only [List.length_append,List.length_cons,List.length_nil];omega)) only [go_sem]
 refine (pledit_ok h1).mono ?_
 rintro v σ2 ⟨rfl,h2⟩
 simp (disch:=first|assumption|omega|(simp only [List.length_append,List.length_cons,List.length_nil];omega)) only [go_sem]
 refine boxC_by rfl fun n hn=>?_
 have hbn:(base2.set xa (some (.obj (bytesAV (List.replicate 504 0))))) n=none:=by
  cases hc:(base2.set xa (some (.obj (bytesAV (List.replicate 504 0))))) n with
  | none=>rfl
  | some r=>rw [h2.at hc] at hn;cases hn
 have hnx:n≠xa:=fun e=>by rw [e,ASt.set_same] at hbn;cases hbn
 have hn0:base2 n=none:=by rw [ASt.set_ne hnx] at hbn;exact hbn
 have h3:=h2.set (x:=n) (some (.obj [.bool true,.int .i64 0,.sl .full [],.sl .full [],.sl .full []])) (.inr hn) (ck_ne h2.ck hbn)
 have hX:=h3.at (x:=xa) ((ASt.set_ne (Ne.symm hnx)).trans (ASt.set_same _ _ _))
 have hN:=h3.at (ASt.set_same _ n _)
 simp (disch:=first|assumption|omega|(simp only [List.length_append,List.length_cons,List.length_nil];omega)) only [go_sem]
 refine (sqenc_ok (nd := .leaf 0 []) hX List.length_replicate hc hN ⟨.full,rfl⟩ hnx ⟨by simp,by omega,fun x hx=>by simp at hx⟩).mono ?_
 rintro v σ3 ⟨rfl,b',hb',rfl⟩
 have h4:=h3.set (x:=xa) (some (.obj (bytesAV b'))) (.inl (by rw [ASt.set_ne (Ne.symm hnx),ASt.set_same];simp)) hck
 have hs496:slV (false,1) (.msl xa 0 504 c) 496 504=some (.msl xa 496 (504-496) (c-496)):=slV_page (o:=496) (by omega) hc
 have htn:tb≠n:=fun e=>by rw [e,hn0] at hbtb;cases hbtb
 have htx:tb≠xa:=fun e=>by rw [e,hxa] at hbtb;cases hbtb
 have wq:IntKind.wrap .u32 (tq:Int)=(tq:Int):=by rw [IntKind.wrap_u32];omega
 simp (disch:=first|assumption|omega|(simp only [List.length_append,List.length_cons,List.length_nil];omega)) only [go_sem]
 refine (pledit_ok h4).mono ?_
 rintro v σ5 ⟨rfl,h5⟩
 have hroot:=trroot_ok (h5.at ((ASt.set_ne htx).trans ((ASt.set_ne htn).trans ((ASt.set_ne htx).trans hbtb))))
 have hX5:=h5.at (ASt.set_same _ xa (some (.obj (bytesAV b'))))
 have hput:=mput32_ok (o:=496) (n:=504-496) (c:=c-496) (v:=tq) hX5 (by rw [SPg.len hb'];omega) (by omega) (by omega)
 have hb2:SLeaf (spl b' 496 (le32 tq)) 0 []:=by
  have hb':SLeaf b' 0 []:=hb'
  have hl:496+(le32 tq).length<=b'.length:=by rw [le32_len,hb'.len];omega
  exact ⟨by rw [spl_len hl];exact hb'.len,by rw [get_else hl (by omega)];exact hb'.b0,by rw [get_else hl (by omega)];exact hb'.b1,by rw [bat_else hl (by omega)];exact hb'.ub,by simp,by omega,fun x hx=>by simp at hx,fun i x hx=>by simp at hx⟩
 generalize spl b' 496 (le32 tq)=b2 at *
 simp (disch:=first|assumption|omega|(simp only [List.length_append,List.length_cons,List.length_nil];omega)) only [go_sem,hs496]
 refine hroot.mono ?_
 rintro v σ6 ⟨rfl,rfl⟩
 simp (disch:=first|assumption|omega|(simp only [List.length_append,List.length_cons,List.length_nil];omega)) only [go_sem,wq]
 refine hput.mono ?_
 rintro v σ7 ⟨rfl,rfl⟩
 have h6:=h5.set (x:=xa) (some (.obj (bytesAV b2))) (.inl (by rw [ASt.set_same];simp)) hck
 have hpage:=plpage_ok h6
 simp (disch:=first|assumption|omega|(simp only [List.length_append,List.length_cons,List.length_nil];omega)) only [go_sem]
 refine hpage.mono ?_
 rintro v σ8 ⟨rfl,rfl⟩
 simp (disch:=first|assumption|omega|(simp only [List.length_append,List.length_cons,List.length_nil];omega)) only [go_sem]
 refine boxC_by rfl fun sb hsb=>?_
 have hsx:sb≠xa:=fun e=>by rw [e,ASt.set_same] at hsb;cases hsb
 have hsn:sb≠n:=fun e=>by
  have:=h6.at (x:=n) ((ASt.set_ne hnx).trans ((ASt.set_ne hnx).trans (ASt.set_same _ _ _)))
  rw [<-e,hsb] at this;cases this
 have hs0:base2 sb=none:=by
  cases hc:base2 sb with
  | none=>rfl
  | some r=>
    have:=h6.at ((ASt.set_ne hsx).trans ((ASt.set_ne hsx).trans ((ASt.set_ne hsn).trans ((ASt.set_ne hsx).trans hc))))
    rw [hsb] at this;cases this
 have hst:sb≠tb:=fun e=>by rw [e,hbtb] at hs0;cases hs0
 have h7:=h6.set (x:=sb) (some (.obj [.ptr p 0,.int .i64 q,.ptr tb 0])) (.inr hsb) (ck_ne h0.ck hs0)
 have hun:=plunpin_d h7 ((ASt.set_ne (Ne.symm hsx)).trans (ASt.set_same _ _ _)) hb2.len (.inl rfl) hck
 have hpp:pset (pset (pset pg tq (some tbb)) q (some (List.replicate 504 0))) q (some b2)=pset (pset pg tq (some tbb)) q (some b2):=by
  funext z
  unfold pset
  split<;>rfl
 rw [hpp] at hun
 have hqt:q≠tq:=fun e=>by rw [e,pset_same] at hpq;cases hpq
 simp (disch:=first|assumption|omega|(simp only [List.length_append,List.length_cons,List.length_nil];omega)) only [go_sem]
 refine hun.mono ?_
 rintro v σ9 ⟨rfl,h8⟩
 refine retC_by (.refl _) (.refl _) ⟨sb,tb,q,tq,base2.set sb (some (.obj [.ptr p 0,.int .i64 q,.ptr tb 0])),_,fun x=>x=tq,fun _=>none,rfl,hkb.set (hkb.gone hs0),ASt.set_same _ _ _,(ASt.set_ne (Ne.symm hst)).trans hbtb,⟨⟨b2,pset_same _ _ _,hb2⟩,.inl ⟨tbb,[],[],by rw [pset_ne (Ne.symm hqt),pset_same],htl,List.Pairwise.nil,fun x=>Iff.rfl,fun x=>rfl⟩,hqt,fun x=>rfl,List.nodup_nil,fun x hx=>by simp at hx⟩,h8.less (fun x r hx=>?_) (h0.ck.away (ck_ne h0.ck hs0))⟩
 by_cases e1:x=sb
 ·subst e1
  rw [ASt.set_same] at hx
  rw [ASt.set_ne hsx,ASt.set_same];exact hx
 ·rw [ASt.set_ne e1] at hx
  have e2:x≠xa:=fun e=>by rw [e,hxa] at hx;cases hx
  have e3:x≠n:=fun e=>by rw [e,hn0] at hx;cases hx
  rw [ASt.set_ne e2,ASt.set_ne e1,ASt.set_ne e2,ASt.set_ne e2,ASt.set_ne e3,ASt.set_ne e2];exact hx
end
end Go.A
namespace Go.A
open Go.Proofs
def resAV (o:Option Int):AV := .tuple [.int .i64 (o.getD 0),.bool o.isSome]
theorem made_ok (m:Bool) (lo:Nat) (h:lo<18446744073709551616):Pure Tryz.prog 48 [.bool m,.int .u64 0,.int .u64 lo] (resAV (madeP m lo)):=by
 intro σ
 refine a48 (by simp) ?_
 unfold madeP
 by_cases hm:lo<=999999999999999999
 ·have g1:¬ (999999999999999999:Int)<lo:=by omega
  have e1:IntKind.i64.wrap (lo:Int)=lo:=by rw [IntKind.wrap_i64];omega
  have e2:IntKind.i64.wrap (-(lo:Int)) = -lo:=by rw [IntKind.wrap_i64];omega
  rw [if_pos hm]
  cases m
  ·simp (disch:=first|assumption|omega|(simp only [List.length_append,List.length_cons,List.length_nil];omega)) only [go_sem,g1,e1,e2]
   exact retC_by (by repeat' (first|exact Drop.refl _|with_reducible refine Drop.off ?_ (by assumption))) (.refl _) ⟨rfl,rfl⟩
  ·simp (disch:=first|assumption|omega|(simp only [List.length_append,List.length_cons,List.length_nil];omega)) only [go_sem,g1,e1,e2]
   refine retC_by (by repeat' (first|exact Drop.refl _|with_reducible refine Drop.off ?_ (by assumption))) (.refl _) ⟨?_,rfl⟩
   rw [show (0:Int)-lo = -lo by omega]
   rfl
 ·have g1:(999999999999999999:Int)<lo:=by omega
  rw [if_neg hm]
  simp (disch:=first|assumption|omega|(simp only [List.length_append,List.length_cons,List.length_nil];omega)) only [go_sem,g1]
  exact retC_by (by repeat' (first|exact Drop.refl _|with_reducible refine Drop.off ?_ (by assumption))) (.refl _) ⟨rfl,rfl⟩
end Go.A
namespace Go.A
open Go.Proofs
theorem prefix_minus (s:List UInt8):Lib.hasPrefix s [45]=decide (s.head? = some 45):=by
 unfold Lib.hasPrefix
 cases s with
 | nil=>rfl
 | cons c l=>
   simp only [List.isPrefixOf,Bool.and_true,List.head?_cons,Option.some.injEq]
   by_cases h:c=45
   ·subst h;rfl
   ·have h1:(45==c)=false:=by simpa using fun e=>h e.symm
    rw [h1];simp [h]
theorem trim_minus (s:List UInt8):Lib.trimPrefix s [45]=if s.head? = some 45 then s.drop 1 else s:=by
 unfold Lib.trimPrefix
 rw [prefix_minus]
 by_cases h:s.head? = some 45
 ·simp [h]
 ·simp [h]
theorem cut_len (l:List UInt8) (c:UInt8):(Lib.cut l [c]).1.length+(Lib.cut l [c]).2.1.length<=l.length:=by
 unfold Lib.cut
 split
 ·have:=Lib.index_room l [c] (by assumption)
  simp at this ⊢
  omega
 ·simp
set_option maxHeartbeats 1000000 in
theorem dparse_ok (s:List UInt8) (hs:s.length<=100000):Pure Tryz.prog 17 [.str s] (resAV (parseD s)):=by
 intro σ
 have hP:=cutPrefix_ok s [45]
 rw [prefix_minus,trim_minus] at hP
 obtain ⟨R,hR⟩:∃ R,parseD s=R:=⟨_,rfl⟩
 rw [hR]
 unfold parseD at hR
 dsimp only at hR
 generalize hm:decide (s.head? = some 45)=minus at *
 have hbl:(if s.head? = some 45 then s.drop 1 else s).length<=100000:=by
  split
  ·rw [List.length_drop];omega
  ·exact hs
 generalize (if s.head? = some 45 then s.drop 1 else s)=body at *
 have hC:=cutc_ok body 46 (by omega)
 have hCl:=cut_len body 46
 have hnf:(Lib.cut body [46]).2.2=false->(Lib.cut body [46]).2.1 = []:=by
  unfold Lib.cut
  split<;>simp
 generalize (Lib.cut body [46]).1=whole at *
 generalize (Lib.cut body [46]).2.1=part at *
 generalize (Lib.cut body [46]).2.2=dot at *
 unfold parseQ at hR
 obtain ⟨F,hF⟩:∃ F,F=ACode.wp Tryz.prog c17_32:=⟨_,rfl⟩
 have fin:∀ (a:AFr),part.length<=4->(accP 0 (whole++part++List.replicate (4-part.length) 48)).bind (madeP minus)=R->(a 5 = .bool minus/\a 6 = .str whole/\a 7 = .str part)->F (RetQ [.t 2,.t 3] fun v σ'=>v=resAV R/\σ'=σ) a σ:=by
  intro a hp4 hacc hf
  rw [hF]
  have hl2:whole.length+part.length<=9223372036854775807:=by omega
  have g4:(part.length:Int)<=4:=by omega
  have e0:([48,48,48,48]:List UInt8).drop part.length=List.replicate (4-part.length) 48:=by
   have:part.length=0\/part.length=1\/part.length=2\/part.length=3\/part.length=4:=by omega
   rcases this with h|h|h|h|h<;>rw [h]<;>rfl
  have e1:binS .add (whole++part) (List.replicate (4-part.length) 48)=some (.str (whole++part++List.replicate (4-part.length) 48)):=binS_add (by simp;omega)
  obtain ⟨M,hM⟩:∃ M,whole++part++List.replicate (4-part.length) 48=M:=⟨_,rfl⟩
  rw [hM] at hacc e1
  have hMl:M.length<=1000000:=by rw [<-hM];simp;omega
  simp (disch:=first|assumption|omega|(simp only [List.length_append,List.length_cons,List.length_nil];omega)) only [go_sem,hf,hl2,g4,e0,e1]
  refine s2b_shr ?_
  simp (disch:=first|assumption|omega|(simp only [List.length_append,List.length_cons,List.length_nil];omega)) only [go_sem,hf]
  refine wp_loop_on (fun (i:Nat) a σ'=>i<=M.length/\(∃ n:Nat,n<=999999999999999999/\accP 0 M=accP n (M.drop i)/\a 9 = .int .u64 n)/\(a 5 = .bool minus/\a 44 = .sl .shr (bytesAV M)/\a 45 = .int .i64 M.length/\a 46 = .int .i64 i)/\σ'=σ) (fun i=>M.length-i) 0 ⟨Nat.zero_le _,⟨0,by omega,rfl,?_⟩,?_,rfl⟩ ?_
  ·simp (disch:=first|assumption|omega|(simp only [List.length_append,List.length_cons,List.length_nil];omega)) only [go_sem,hf]
  ·simp (disch:=first|assumption|omega|(simp only [List.length_append,List.length_cons,List.length_nil];omega)) only [go_sem,hf]
  rintro i a σ1 ⟨hi,⟨n,hn,hac,hf9⟩,hf,rfl⟩
  rw [hac] at hacc
  by_cases hlt:i<M.length
  ·have hidx : M[i]? = some (M[i]'hlt) := List.getElem?_eq_getElem hlt
   rw [List.drop_eq_getElem_cons hlt] at hac hacc
   obtain ⟨c, hc⟩ : ∃ c, M[i]'hlt = c := ⟨_, rfl⟩
   rw [hc] at hidx hac hacc
   have hlt':(i:Int)<M.length:=by omega
   have hcb:c.toNat<256:=c.toNat_lt
   rw [accP] at hac hacc
   by_cases h1:c.toNat<48
   ·have h1':(c.toNat:Int)<48:=by omega
    rw [if_pos (by omega)] at hacc
    subst hacc
    simp (disch:=first|assumption|omega|(simp only [List.length_append,List.length_cons,List.length_nil];omega)) only [go_sem,hf,hf9,hlt',hidx,h1']
    exact retC_by (by repeat' (first|exact Drop.refl _|with_reducible refine Drop.off ?_ (by assumption))) (.refl _) ⟨rfl,rfl⟩
   have h1':¬ (c.toNat:Int)<48:=by omega
   by_cases h2:57<c.toNat
   ·have h2':(57:Int)<c.toNat:=by omega
    rw [if_pos (by omega)] at hacc
    subst hacc
    simp (disch:=first|assumption|omega|(simp only [List.length_append,List.length_cons,List.length_nil];omega)) only [go_sem,hf,hf9,hlt',hidx,h1',h2']
    exact retC_by (by repeat' (first|exact Drop.refl _|with_reducible refine Drop.off ?_ (by assumption))) (.refl _) ⟨rfl,rfl⟩
   have h2':¬ (57:Int)<c.toNat:=by omega
   by_cases h3:99999999999999999<n
   ·have h3':(99999999999999999:Int)<n:=by omega
    rw [if_pos (by omega)] at hacc
    subst hacc
    simp (disch:=first|assumption|omega|(simp only [List.length_append,List.length_cons,List.length_nil];omega)) only [go_sem,hf,hf9,hlt',hidx,h1',h2',h3']
    exact retC_by (by repeat' (first|exact Drop.refl _|with_reducible refine Drop.off ?_ (by assumption))) (.refl _) ⟨rfl,rfl⟩
   have h3':¬ (99999999999999999:Int)<n:=by omega
   rw [if_neg (by omega)] at hac hacc
   obtain ⟨n2,hn2⟩:∃ n2:Nat,10*n+(c.toNat-48)=n2:=⟨_,rfl⟩
   rw [hn2] at hac hacc
   have e2:10*(n:Int)+((c.toNat:Int)-48)=n2:=by omega
   simp (disch:=first|assumption|omega|(simp only [List.length_append,List.length_cons,List.length_nil];omega)) only [go_sem,hf,hf9,hlt',hidx,h1',h2',h3',e2]
   exact ⟨i+1,by omega,by omega,⟨n2,by omega,hac,rfl⟩,rfl⟩
  ·have hlt':¬ (i:Int)<M.length:=by omega
   rw [List.drop_eq_nil_of_le (by omega),accP,Option.bind_some] at hacc
   subst hacc
   have hMd:=made_ok minus n (by omega)
   simp (disch:=first|assumption|omega|(simp only [List.length_append,List.length_cons,List.length_nil];omega)) only [go_sem,hf,hf9,hlt']
   refine hMd.use ?_
   simp only [resAV]
   simp (disch:=first|assumption|omega|(simp only [List.length_append,List.length_cons,List.length_nil];omega)) only [go_sem]
   exact retC_by (by repeat' (first|exact Drop.refl _|with_reducible refine Drop.off ?_ (by assumption))) (.refl _) ⟨rfl,rfl⟩
 refine a17 (by simp) ?_
 simp (disch:=first|assumption|omega|(simp only [List.length_append,List.length_cons,List.length_nil];omega)) only [go_sem,←hF]
 refine hP.use ?_
 simp (disch:=first|assumption|omega|(simp only [List.length_append,List.length_cons,List.length_nil];omega)) only [go_sem,←hF]
 refine hC.use ?_
 by_cases hw:whole = []
 ·subst hw
  rw [if_pos (.inl rfl)] at hR
  subst hR
  simp (disch:=first|assumption|omega|(simp only [List.length_append,List.length_cons,List.length_nil];omega)) only [go_sem,←hF]
  exact retC_by (by repeat' (first|exact Drop.refl _|with_reducible refine Drop.off ?_ (by assumption))) (.refl _) ⟨rfl,rfl⟩
 cases dot with
 | false=>
   have hp:=hnf rfl
   subst hp
   rw [if_neg (by rintro (h|⟨h,_⟩)<;>contradiction)] at hR
   simp (disch:=first|assumption|omega|(simp only [List.length_append,List.length_cons,List.length_nil];omega)) only [go_sem,hw,←hF]
   refine fin _ (by simp) hR ?_
   simp (disch:=first|assumption|omega|(simp only [List.length_append,List.length_cons,List.length_nil];omega)) only [go_sem]
 | true=>
   by_cases hp:part = []
   ·subst hp
    rw [if_pos (.inr ⟨rfl,.inl rfl⟩)] at hR
    subst hR
    simp (disch:=first|assumption|omega|(simp only [List.length_append,List.length_cons,List.length_nil];omega)) only [go_sem,hw,←hF]
    exact retC_by (by repeat' (first|exact Drop.refl _|with_reducible refine Drop.off ?_ (by assumption))) (.refl _) ⟨rfl,rfl⟩
   by_cases h4:4<part.length
   ·have h4':(4:Int)<part.length:=by omega
    rw [if_pos (.inr ⟨rfl,.inr h4⟩)] at hR
    subst hR
    simp (disch:=first|assumption|omega|(simp only [List.length_append,List.length_cons,List.length_nil];omega)) only [go_sem,hw,hp,h4',←hF]
    exact retC_by (by repeat' (first|exact Drop.refl _|with_reducible refine Drop.off ?_ (by assumption))) (.refl _) ⟨rfl,rfl⟩
   ·have h4':¬ (4:Int)<part.length:=by omega
    rw [if_neg (by rintro (h|⟨_,h|h⟩)<;>contradiction)] at hR
    simp (disch:=first|assumption|omega|(simp only [List.length_append,List.length_cons,List.length_nil];omega)) only [go_sem,hw,hp,h4',←hF]
    refine fin _ (by omega) hR ?_
    simp (disch:=first|assumption|omega|(simp only [List.length_append,List.length_cons,List.length_nil];omega)) only [go_sem]
end Go.A
namespace Go.A
open Go.Proofs
/-! 4: tabular/tabulartop.live -/
def c4_17:ACode := .seq (.ops [ oq 0 (.mv (.v (.bool false)))]) (.seq (.ops [ oe 8 (.call 6 [(.v (.int .i64 3))]),oq 1 (.mv (.t 8))]) (.seq (.seq (.ops [ oq 9 (.mv (.t 1)),oq 10 (.eq .p false (.t 9) (.v .nilp))]) (.cond (.t 10) (.seq (.ops [ oq 0 (.mv (.v (.bool false)))]) .ret) .skip)) (.seq (.ops [ oq 12 (.mv (.t 1)),oe 13 (.call 14 [(.t 12)]),oq 11 (.mv (.t 13)),oq 14 (.ext 0 (.t 11)),oq 15 (.ext 1 (.t 11)),oq 2 (.mv (.t 14)),oq 3 (.mv (.t 15))]) (.seq (.ops [ oe 17 (.call 16 [(.v (.str [97,98]))]),oe 18 (.call 15 [(.t 17)]),oq 16 (.mv (.t 18)),oq 19 (.ext 0 (.t 16)),oq 20 (.ext 1 (.t 16)),oq 4 (.mv (.t 19)),oq 5 (.mv (.t 20))]) (.seq (.ops [ oe 22 (.call 17 [(.v (.str [45,50,46,53]))]),oq 21 (.mv (.t 22)),oq 23 (.ext 0 (.t 21)),oq 24 (.ext 1 (.t 21)),oq 6 (.mv (.t 23)),oq 7 (.mv (.t 24))]) (.seq (.ops [ oq 25 (.mv (.t 3)),oq 26 (.bin .eql (.t 25) (.v (.int .i64 0))),oq 27 (.mv (.t 26)),⟨some 28,some (27,true),.q (.mv (.t 2)),[]⟩,⟨some 29,some (27,true),.q (.bin .eql (.t 28) (.v (.int .i64 1))),[]⟩,oq 30 (.pick (.t 27) (.t 29) (.v (.bool false))),oq 31 (.mv (.t 30)),⟨some 32,some (31,true),.q (.mv (.t 5)),[]⟩,oq 33 (.pick (.t 31) (.t 32) (.v (.bool false))),oq 34 (.mv (.t 33)),⟨some 35,some (34,true),.q (.mv (.t 4)),[]⟩,⟨some 36,some (34,true),.q (.bin .eql (.t 35) (.v (.str [97,98]))),[]⟩,oq 37 (.pick (.t 34) (.t 36) (.v (.bool false))),oq 38 (.mv (.t 37)),⟨some 39,some (38,true),.q (.mv (.t 7)),[]⟩,oq 40 (.pick (.t 38) (.t 39) (.v (.bool false))),oq 41 (.mv (.t 40)),⟨some 42,some (41,true),.q (.mv (.t 6)),[]⟩,⟨some 43,some (41,true),.q (.bin .eql (.t 42) (.v (.int .i64 (-25000)))),[]⟩,oq 44 (.pick (.t 41) (.t 43) (.v (.bool false))),oq 0 (.mv (.t 44))]) .ret))))))
@[go_sem] def c4_17_wp:=wp_of c4_17.eq_1
def c4:AFn:=⟨45,[.t 0],c4_17⟩
theorem c4_ok:compF Tryz.prog Tryz.f4=some c4:=by kernel_rfl
theorem a4 {args:List AV} {σ:ASt} {R:AV->ASt->Prop} (hl:args.length<=45) (h:c4_17.wp Tryz.prog (RetQ [.t 0] R) (init args) σ):ACalls Tryz.prog 4 args σ R:=acalls_of Tryz.func4 c4_ok hl h
end Go.A
namespace Go.A
open Go.Proofs Go.Lib
theorem live_ok {σ:ASt} (hT:CkT σ):ACalls Tryz.prog 4 [] σ fun v σ'=>v = .bool true/\σ'=σ:=by
 have hN:=dknew_ok hT 3
 have e3:min (max (3:Int) 2) 60000=3:=by decide
 rw [e3] at hN
 have hP:=dparse_ok [45,50,46,53] (by decide)
 have hPd:parseD [45,50,46,53]=some (-25000):=by decide +kernel
 rw [hPd] at hP
 have hS:=fun τ (h:CkT τ)=>ckseal_ok h [97,98] (by decide)
 have hO:=fun τ (h:CkT τ)=>ckopen_ok h ([97,98]++le32 (ckN [97,98])) (by rw [List.length_append,le32_len];decide)
 rw [openP_seal] at hO
 have hra:resAV (some (-25000)) = .tuple [.int .i64 (-25000),.bool true]:=rfl
 rw [hra] at hP
 refine a4 (by simp) ?_
 simp (disch:=first|assumption|omega|(simp only [List.length_append,List.length_cons,List.length_nil];omega)) only [go_sem]
 refine hN.mono ?_
 rintro v σ1 ⟨d,rfl,B,cB,rB,fv,F,I,cI,rI,hD⟩
 have hK:=dktake_new (hD.at hT) hD hT (newP_ok (by decide)) rfl (by decide:(1:Int)<3) rfl (by decide:(1:Int)<1000000000)
 simp (disch:=first|assumption|omega|(simp only [List.length_append,List.length_cons,List.length_nil];omega)) only [go_sem]
 refine hK.mono ?_
 rintro v σ2 ⟨rfl,h2⟩
 have hi:(((newP 3).isF.length:Nat):Int)=1:=rfl
 have hC2:CkT σ2:=h2.at hT
 simp (disch:=first|assumption|omega|(simp only [List.length_append,List.length_cons,List.length_nil];omega)) only [go_sem,hi]
 refine (hS _ hC2).mono ?_
 rintro v σ3 ⟨rfl,rfl⟩
 generalize [97,98]++le32 (ckN [97,98])=sx at *
 simp (disch:=first|assumption|omega|(simp only [List.length_append,List.length_cons,List.length_nil];omega)) only [go_sem]
 refine (hO _ hC2).mono ?_
 rintro v σ4 ⟨rfl,rfl⟩
 simp (disch:=first|assumption|omega|(simp only [List.length_append,List.length_cons,List.length_nil];omega)) only [go_sem]
 refine hP.use ?_
 simp (disch:=first|assumption|omega|(simp only [List.length_append,List.length_cons,List.length_nil];omega)) only [go_sem]
 exact retC_by h2.drop (.refl _) ⟨rfl,rfl⟩
end Go.A
namespace Go.A
open Go.Proofs
theorem names_back1:(List.range 700).all (fun i=>decide (columnP (lettersP i)=((i:Int),true)))=true:=by decide +kernel
theorem names_back {a:Int} (h0:0<=a) (h1:a<700):columnP (lettersP a)=(a,true):=by
 obtain ⟨n,rfl⟩:∃ n:Nat,a=n:=⟨a.toNat,by omega⟩
 have:=List.all_eq_true.1 names_back1 n (List.mem_range.2 (by omega))
 simpa using this
theorem lettersF_len:∀ k n,(lettersF k n).length<=k
 | 0,n=>Nat.le_refl _
 | k+1,n=>by
   unfold lettersF
   split
   ·exact Nat.zero_le _
   ·have:=lettersF_len k ((n-1) / 26)
    simp;omega
theorem letters_len (c:Int):(lettersP c).length<=4:=by
 unfold lettersP
 split
 ·exact Nat.zero_le _
 ·exact lettersF_len _ _
end Go.A
namespace Go.A
open Go.Proofs
section
variable {base σ:ASt} {p k t root troot s a b:Nat} {m:Int} {pg pg':Pgs} {T T':Nat->Prop} {M M':Nat->Option Nat} {A B:List Nat}
theorem sqfindget (hs:base s=some (.obj [.ptr p 0,.int .i64 root,.ptr t 0])) (ht:base t=some (.obj [.ptr p 0,.int .i64 troot])) (hS:SqTwo pg root troot T M a b A B) (hroot:1<=root) (htot:A.length+B.length<=60) {id:Nat} (hid:id∈A++B) :
  ∃ P:Nat,(∀ σ,PoolAt base σ p m k pg->ACalls Tryz.prog 10 [.ptr s 0,.int .u64 id] σ fun w σ'=>w = .tuple [.int .i64 P,.int .i64 0]/\PoolAt base σ' p m k pg) ∧
   ∀ σ,PoolAt base σ p m k pg->ACalls Tryz.prog 11 [.ptr s 0,.int .i64 P] σ fun w σ'=>w = .tuple [.int .u64 id,.int .i64 0]/\PoolAt base σ' p m k pg:=by
 obtain ⟨br,r1,r2⟩:=hS.rt
 obtain ⟨b1,a1,a2⟩:=hS.la
 obtain ⟨b2,q1,q2⟩:=hS.lb
 obtain ⟨n1,n2,n3⟩:=hS.ne
 have hAn:=(List.nodup_append.1 hS.nd).1
 have hBn:=(List.nodup_append.1 hS.nd).2.1
 have hsum : [A.length,B.length].sum<=1000:=by simp only [List.sum_cons,List.sum_nil];omega
 rcases List.mem_append.1 hid with hA|hB
 ·obtain ⟨i,hi⟩:=List.mem_iff_getElem?.1 hA
  have hil:=(List.getElem?_eq_some_iff.1 hi).1
  have e0:i+([A.length,B.length].take 0).sum=i:=rfl
  refine ⟨i,fun σ hp=>?_,fun σ hp=>sqget_of hp (sqdown_two hp hs r1 r2 (.inl ⟨hil,rfl,rfl⟩) (by omega) a1 a2) hi⟩
  have:=sqfind_ok (i0:=i) (i:=0) hp hs ht hS.tr (id:=id) (page:=a) (by rw [hS.mm,if_pos hA]) a1 a2 hi (fun j hj e=>by have:=nodup_inj hAn e hi;omega) hroot r1 r2 rfl (fun j hj=>absurd hj (Nat.not_lt_zero _)) hsum
  rw [e0] at this
  exact this
 ·have hA:id ∉ A:=fun q=>(List.nodup_append.1 hS.nd).2.2 id q id hB rfl
  obtain ⟨i,hi⟩:=List.mem_iff_getElem?.1 hB
  have hil:=(List.getElem?_eq_some_iff.1 hi).1
  have e0:i+([A.length,B.length].take 1).sum=i+A.length:=rfl
  refine ⟨i+A.length,fun σ hp=>?_,fun σ hp=>sqget_of hp (sqdown_two (i':=i) hp hs r1 r2 (.inr ⟨by omega,rfl,by omega⟩) (by omega) q1 q2) hi⟩
  have:=sqfind_ok (i0:=i) (i:=1) hp hs ht hS.tr (id:=id) (page:=b) (by rw [hS.mm,if_neg hA,if_pos hB]) q1 q2 hi (fun j hj e=>by have:=nodup_inj hBn e hi;omega) hroot r1 r2 rfl (fun j hj=>by
   obtain rfl:j=0:=by omega
   intro e;injection e with e;exact n1 e) hsum
  rw [e0] at this
  exact this
theorem insL_end (l:List Nat) (x:Nat):insL l l.length x=l ++ [x]:=by
 unfold insL
 rw [List.take_length,List.drop_length]
theorem range_ins (i:Nat):insL (List.range i) i i=List.range (i+1):=by
 have:=insL_end (List.range i) i
 rw [List.length_range] at this
 rw [this,List.range_succ]
def Sixty (base:ASt) (p:Nat) (root troot:Nat) (n:Nat) (σ:ASt):Prop:=∃ (k:Nat) (pg:Pgs) (T:Nat->Prop) (M:Nat->Option Nat) (a b:Nat) (A B:List Nat),k<=n/\(∀ x,x∈A++B↔x<60)/\A.length+B.length=60/\SqTwo pg root troot T M a b A B/\PoolAt base σ p 500 k pg
def Coming (base:ASt) (p:Nat) (root troot:Nat) (i:Nat) (σ:ASt):Prop:=
 (i<=48/\∃ (k:Nat) (pg:Pgs) (T:Nat->Prop) (M:Nat->Option Nat),k<=3+2*i/\SqOne pg root troot T M (List.range i)/\PoolAt base σ p 500 k pg) ∨
 (49<=i/\∃ (k:Nat) (pg:Pgs) (T:Nat->Prop) (M:Nat->Option Nat) (a b:Nat) (A B:List Nat),k<=201+2*(i-49)/\A++B=List.range i/\SqTwo pg root troot T M a b A B/\PoolAt base σ p 500 k pg)
theorem coming_step (hs:base s=some (.obj [.ptr p 0,.int .i64 root,.ptr t 0])) (ht:base t=some (.obj [.ptr p 0,.int .i64 troot])) {i:Nat} (hi:i<60) (h:Coming base p root troot i σ) :
  ACalls Tryz.prog 8 [.ptr s 0,.int .i64 i,.int .u64 i] σ fun w σ'=>w = .int .i64 0/\Coming base p root troot (i+1) σ':=by
 have hno:i ∉ List.range i:=fun e=>by have:=List.mem_range.1 e;omega
 rcases h with ⟨hi48,k,pg,T,M,hk,hS,hp⟩|⟨hi49,k,pg,T,M,a,b,A,B,hk,hAB,hS,hp⟩
 ·by_cases hlt:i<48
  ·refine (sqins_one hp hs ht hS (i:=i) (id:=i) (by rw [List.length_range];omega) hi hno (by rw [List.length_range];omega) (by omega)).mono ?_
   rintro w σ' ⟨rfl,k',pg',T',M',hk',hS',hp'⟩
   rw [range_ins] at hS'
   exact ⟨rfl,.inl ⟨by omega,k',pg',T',M',by omega,hS',hp'⟩⟩
  ·obtain rfl:i=48:=by omega
   refine (sqins_full hp hs ht hS (i:=48) (id:=48) (by rw [List.length_range];omega) hi hno (by rw [List.length_range]) (by omega)).mono ?_
   rintro w σ' ⟨rfl,k',pg',T',M',a,b,A',B',hk',hAB,hS',hp'⟩
   rw [range_ins] at hAB
   exact ⟨rfl,.inr ⟨by omega,k',pg',T',M',a,b,A',B',by omega,hAB,hS',hp'⟩⟩
 ·have hl:A.length+B.length=i:=by rw [<-List.length_append,hAB,List.length_range]
  refine (sqins_two hp hs ht hS (i:=i) (id:=i) (by omega) hi (by rw [hAB];exact hno) (by omega) (by omega)).mono ?_
  rintro w σ' ⟨rfl,k',pg',T',M',A',B',hk',hAB',hS',hp'⟩
  rw [hAB,range_ins] at hAB'
  exact ⟨rfl,.inr ⟨by omega,k',pg',T',M',a,b,A',B',by omega,hAB',hS',hp'⟩⟩
theorem coming_done (h:Coming base p root troot 60 σ):Sixty base p root troot 223 σ:=by
 rcases h with ⟨h48,_⟩|⟨_,k,pg,T,M,a,b,A,B,hk,hAB,hS,hp⟩
 ·omega
 ·exact ⟨k,pg,T,M,a,b,A,B,by omega,fun x=>by rw [hAB,List.mem_range],by rw [<-List.length_append,hAB,List.length_range],hS,hp⟩
theorem sixty_move (hs:base s=some (.obj [.ptr p 0,.int .i64 root,.ptr t 0])) (ht:base t=some (.obj [.ptr p 0,.int .i64 troot])) {n i j:Nat} (hn:n<=400) (hi:i<60) (hj:j<60) (h:Sixty base p root troot n σ) :
  ACalls Tryz.prog 9 [.ptr s 0,.int .i64 i,.int .i64 1,.int .i64 j] σ fun w σ'=>w = .int .i64 0/\Sixty base p root troot (n+16) σ':=by
 obtain ⟨k,pg,T,M,a,b,A,B,hk,hall,hl,hS,hp⟩:=h
 have hLl:(A++B).length=60:=by rw [List.length_append];exact hl
 obtain ⟨x,hx⟩:∃ x,(A++B)[i]? = some x:=⟨_,List.getElem?_eq_getElem (by omega)⟩
 refine (sqmove_two hp hs ht hS hx (by omega) hl (by omega)).mono ?_
 rintro w σ' ⟨rfl,k',pg',T',M',A',B',hk',hAB,hS',hp'⟩
 refine ⟨rfl,k',pg',T',M',a,b,A',B',by omega,fun y=>?_,?_,hS',hp'⟩
 ·rw [hAB,mem_ins,del_mem hS.nd hx,hall]
  have hx60:=(hall x).1 (List.mem_of_getElem? hx)
  constructor
  ·rintro (rfl|⟨h1,_⟩)
   ·exact hx60
   ·exact h1
  ·intro h1
   by_cases e:y=x
   ·exact .inl e
   ·exact .inr ⟨h1,e⟩
 ·rw [<-List.length_append,hAB,insL_len (by rw [delL_len (by omega)];omega),delL_len (by omega)];omega
theorem rem60 (x:Int):∃ n:Nat,n<60/\IntKind.wrap .i64 (x.tmod 60)=x.tmod 60/\IntKind.wrap .i64 (x.tmod 60+60)=x.tmod 60+60/\IntKind.wrap .i64 ((x.tmod 60+60).tmod 60)=(n:Int)/\(x.tmod 60+60).tmod 60=(n:Int):=by
 have h1:x.tmod 60<60:=Int.tmod_lt_of_pos x (by decide)
 have h2 : -60<x.tmod 60:=by
  rcases Int.le_total 0 x with h|h
  ·have:=Int.tmod_nonneg (b:=60) h;omega
  ·have h3:(-x).tmod 60<60:=Int.tmod_lt_of_pos _ (by decide)
   rw [Int.neg_tmod] at h3
   omega
 generalize x.tmod 60=y at *
 have h3:(y+60).tmod 60=(y+60) % 60:=Int.tmod_eq_emod_of_nonneg (by omega)
 have h4:0<=(y+60) % 60:=Int.emod_nonneg _ (by decide)
 have h5:(y+60) % 60<60:=Int.emod_lt_of_pos _ (by decide)
 refine ⟨((y+60) % 60).toNat,by omega,by rw [IntKind.wrap_i64];omega,by rw [IntKind.wrap_i64];omega,?_,by omega⟩
 rw [h3,IntKind.wrap_i64]
 omega
end
end Go.A
namespace Go.A
open Go.Proofs
/-! 3: tabular/tabulartop.TabularNames -/
def c3_25:ACode := .seq (.seq (.ops [ oq 28 (.mv (.t 6)),oq 29 (.bin .lss (.t 28) (.v (.int .i64 60)))]) (.cond (.t 29) .skip (.exit 0))) (.seq (.block 1 (.seq (.ops [ oq 32 (.mv (.t 4)),oq 33 (.mv (.t 6)),oq 34 (.mv (.t 6)),oq 35 (.conv .u64 (.t 34)),oe 36 (.call 8 [(.t 32),(.t 33),(.t 35)]),oq 37 (.bin .neq (.t 36) (.v (.int .i64 0)))]) (.cond (.t 37) (.seq (.ops [ oq 2 (.mv (.v (.bool false)))]) .ret) .skip))) (.ops [ oq 30 (.mv (.t 6)),oq 31 (.bin .add (.t 30) (.v (.int .i64 1))),oq 6 (.mv (.t 31))]))
def c3_43:ACode := .seq (.seq (.ops [ oq 38 (.mv (.t 7)),oq 39 (.bin .add (.t 38) (.v (.int .i64 1))),oq 40 (.mv (.t 0)),oq 41 (.len (.t 40)),oq 42 (.bin .lss (.t 39) (.t 41)),oq 43 (.mv (.t 42)),⟨some 44,some (43,true),.q (.mv (.t 7)),[]⟩,⟨some 45,some (43,true),.q (.bin .lss (.t 44) (.v (.int .i64 16))),[]⟩,oq 46 (.pick (.t 43) (.t 45) (.v (.bool false)))]) (.cond (.t 46) .skip (.exit 2))) (.seq (.block 3 (.seq (.ops [ oq 49 (.mv (.t 0)),oq 50 (.mv (.t 7)),oq 51 (.ia 1 (.t 49) (.t 50)),oq 52 (.ld none (.t 51)),oq 53 (.bin .rem (.t 52) (.v (.int .i64 60))),oq 54 (.bin .add (.t 53) (.v (.int .i64 60))),oq 55 (.bin .rem (.t 54) (.v (.int .i64 60))),oq 56 (.mv (.t 0)),oq 57 (.mv (.t 7)),oq 58 (.bin .add (.t 57) (.v (.int .i64 1))),oq 59 (.ia 1 (.t 56) (.t 58)),oq 60 (.ld none (.t 59)),oq 61 (.bin .rem (.t 60) (.v (.int .i64 60))),oq 62 (.bin .add (.t 61) (.v (.int .i64 60))),oq 63 (.bin .rem (.t 62) (.v (.int .i64 60))),oq 8 (.mv (.t 55)),oq 9 (.mv (.t 63))]) (.seq (.ops [ oq 64 (.mv (.t 4)),oq 65 (.mv (.t 8)),oq 66 (.mv (.t 9)),oe 67 (.call 9 [(.t 64),(.t 65),(.v (.int .i64 1)),(.t 66)]),oq 68 (.bin .neq (.t 67) (.v (.int .i64 0)))]) (.cond (.t 68) (.seq (.ops [ oq 2 (.mv (.v (.bool false)))]) .ret) .skip)))) (.ops [ oq 47 (.mv (.t 7)),oq 48 (.bin .add (.t 47) (.v (.int .i64 2))),oq 7 (.mv (.t 48))]))
def c3_65:ACode := .seq (.seq (.ops [ oq 69 (.mv (.t 10)),oq 70 (.bin .lss (.t 69) (.v (.int .i64 60)))]) (.cond (.t 70) .skip (.exit 4))) (.seq (.block 5 (.seq (.ops [ oq 74 (.mv (.t 4)),oq 75 (.mv (.t 10)),oq 76 (.conv .u64 (.t 75)),oe 77 (.call 10 [(.t 74),(.t 76)]),oq 73 (.mv (.t 77)),oq 78 (.ext 0 (.t 73)),oq 79 (.ext 1 (.t 73)),oq 11 (.mv (.t 78)),oq 12 (.mv (.t 79))]) (.seq (.ops [ oq 81 (.mv (.t 4)),oq 82 (.mv (.t 11)),oe 83 (.call 11 [(.t 81),(.t 82)]),oq 80 (.mv (.t 83)),oq 84 (.ext 0 (.t 80)),oq 85 (.ext 1 (.t 80)),oq 13 (.mv (.t 84)),oq 14 (.mv (.t 85))]) (.seq (.ops [ oq 87 (.mv (.t 13)),oq 88 (.conv .i64 (.t 87)),oe 89 (.call 13 [(.t 88)]),oe 90 (.call 12 [(.t 89)]),oq 86 (.mv (.t 90)),oq 91 (.ext 0 (.t 86)),oq 92 (.ext 1 (.t 86)),oq 15 (.mv (.t 91)),oq 16 (.mv (.t 92))]) (.seq (.ops [ oq 93 (.mv (.t 12)),oq 94 (.bin .neq (.t 93) (.v (.int .i64 0))),oq 95 (.mv (.t 94)),⟨some 96,some (95,false),.q (.mv (.t 14)),[]⟩,⟨some 97,some (95,false),.q (.bin .neq (.t 96) (.v (.int .i64 0))),[]⟩,oq 98 (.pick (.t 95) (.v (.bool true)) (.t 97)),oq 99 (.mv (.t 98)),⟨some 100,some (99,false),.q (.mv (.t 13)),[]⟩,⟨some 101,some (99,false),.q (.mv (.t 10)),[]⟩,⟨some 102,some (99,false),.q (.conv .u64 (.t 101)),[]⟩,⟨some 103,some (99,false),.q (.bin .neq (.t 100) (.t 102)),[]⟩,oq 104 (.pick (.t 99) (.v (.bool true)) (.t 103)),oq 105 (.mv (.t 104)),⟨some 106,some (105,false),.q (.mv (.t 16)),[]⟩,⟨some 107,some (105,false),.q (.un .not (.t 106)),[]⟩,oq 108 (.pick (.t 105) (.v (.bool true)) (.t 107)),oq 109 (.mv (.t 108)),⟨some 110,some (109,false),.q (.mv (.t 15)),[]⟩,⟨some 111,some (109,false),.q (.mv (.t 10)),[]⟩,⟨some 112,some (109,false),.q (.bin .neq (.t 110) (.t 111)),[]⟩,oq 113 (.pick (.t 109) (.v (.bool true)) (.t 112))]) (.cond (.t 113) (.seq (.ops [ oq 2 (.mv (.v (.bool false)))]) .ret) .skip)))))) (.ops [ oq 71 (.mv (.t 10)),oq 72 (.bin .add (.t 71) (.v (.int .i64 1))),oq 10 (.mv (.t 72))]))
def c3_70:ACode := .seq (.ops [ oq 2 (.mv (.v (.bool true)))]) .ret
def c3_78:ACode := .seq (.ops [ oq 2 (.mv (.v (.bool false)))]) (.seq (.seq (.ops [ oe 17 (.call 4 []),oq 18 (.un .not (.t 17))]) (.cond (.t 18) (.seq (.ops [ oq 2 (.mv (.v (.bool false)))]) .ret) .skip)) (.seq (.ops [ oe 19 (.call 6 [(.v (.int .i64 500))]),oe 20 (.call 5 [(.t 19),(.v (.int .i64 3)),(.v (.int .i64 0))]),oq 3 (.mv (.t 20))]) (.seq (.ops [ oq 22 (.mv (.t 3)),oe 23 (.call 7 [(.t 22)]),oq 21 (.mv (.t 23)),oq 24 (.ext 0 (.t 21)),oq 25 (.ext 1 (.t 21)),oq 4 (.mv (.t 24)),oq 5 (.mv (.t 25))]) (.seq (.seq (.ops [ oq 26 (.mv (.t 5)),oq 27 (.bin .neq (.t 26) (.v (.int .i64 0)))]) (.cond (.t 27) (.seq (.ops [ oq 2 (.mv (.v (.bool false)))]) .ret) .skip)) (.seq (.seq (.ops [ oq 6 (.mv (.v (.int .i64 0)))]) (.block 0 (.loop c3_25))) (.seq (.seq (.ops [ oq 7 (.mv (.v (.int .i64 0)))]) (.block 2 (.loop c3_43))) (.seq (.seq (.ops [ oq 10 (.mv (.v (.int .i64 0)))]) (.block 4 (.loop c3_65))) c3_70)))))))
@[go_sem] def c3_25_wp:=wp_of c3_25.eq_1
@[go_sem] def c3_43_wp:=wp_of c3_43.eq_1
@[go_sem] def c3_65_wp:=wp_of c3_65.eq_1
@[go_sem] def c3_70_wp:=wp_of c3_70.eq_1
@[go_sem] def c3_78_wp:=wp_of c3_78.eq_1
def c3:AFn:=⟨114,[.t 2],c3_78⟩
theorem c3_ok:compF Tryz.prog Tryz.f3=some c3:=by kernel_rfl
theorem a3 {args:List AV} {σ:ASt} {R:AV->ASt->Prop} (hl:args.length<=114) (h:c3_78.wp Tryz.prog (RetQ [.t 2] R) (init args) σ):ACalls Tryz.prog 3 args σ R:=acalls_of Tryz.func3 c3_ok hl h
end Go.A
namespace Go.A
open Go.Proofs
set_option maxHeartbeats 4000000 in
theorem TabularNames_any {σ:ASt} (hT:CkT σ) (L:List Int):ACalls Tryz.prog 3 [.sl .shr (L.map (AV.int .i64))] σ fun v σ'=>v = .bool true/\σ'=σ:=by
 have hkl:(L.map (AV.int .i64)).length=L.length:=List.length_map _
 have hkg:∀ (i:Nat) (n:Int),L[i]? = some n->(L.map (AV.int .i64))[i]? = some (.int .i64 n):=fun i n h=>by rw [List.getElem?_map,h];rfl
 generalize L.map (AV.int .i64)=LV at *
 refine a3 (by simp) ?_
 simp (disch:=first|assumption|omega|(simp only [List.length_append,List.length_cons,List.length_nil];omega)) only [go_sem]
 refine (live_ok hT).mono ?_
 rintro w σ1 ⟨rfl,rfl⟩
 simp (disch:=first|assumption|omega|(simp only [List.length_append,List.length_cons,List.length_nil];omega)) only [go_sem]
 refine (ddnew_ok hT 500 (by omega) (by omega)).mono ?_
 rintro w σ2 ⟨d,rfl,h2⟩
 simp (disch:=first|assumption|omega|(simp only [List.length_append,List.length_cons,List.length_nil];omega)) only [go_sem]
 refine (plnew_ok h2 hT (F:=3) (by omega) (by omega)).mono ?_
 rintro w σ3 ⟨p,rfl,h3⟩
 simp (disch:=first|assumption|omega|(simp only [List.length_append,List.length_cons,List.length_nil];omega)) only [go_sem]
 refine (sqnew_ok h3 (by omega)).mono ?_
 rintro w σ4 ⟨s,t,root,troot,base,pg,T,M,rfl,hkb,hs,ht,hone,h4⟩
 have hroot:1<=root:=by
  obtain ⟨b,hb,_⟩:=hone.lf
  exact (h4.rng hb).1
 have hend:∀ (n:Nat) (s3:ASt) (x:AFr),Sixty base p root troot n s3->(x 4 = .ptr s 0/\x 10 = .int .i64 0)->ACode.wp Tryz.prog (.loop c3_65) (BlockQ 4 (SeqQ (ACode.wp Tryz.prog c3_70) (RetQ [RV.t 2] fun v σ'=>v = .bool true/\σ'=σ1))) x s3:=by
  intro n s3 x hsx hx
  obtain ⟨k,pg,T,M,a,b,A,B,hk,hall,hl,hS,hp⟩:=hsx
  obtain ⟨J3,hJ3⟩:∃ J:Nat->AFr->ASt->Prop,J=fun i a2 s4=>i<=60/\(a2 4 = .ptr s 0/\a2 10 = .int .i64 i)/\PoolAt base s4 p 500 k pg:=⟨_,rfl⟩
  refine wp_loop_on J3 (fun i=>61-i) 0 ?_ ?_
  ·rw [hJ3]
   exact ⟨Nat.zero_le _,hx,hp⟩
  intro i a2 s4 hj
  rw [hJ3] at hj
  obtain ⟨hi,hf,hp4⟩:=hj
  by_cases hlt:i<60
  ·have hlt':(i:Int)<60:=by omega
   have wi:IntKind.wrap .u64 (i:Int)=(i:Int):=by rw [IntKind.wrap_u64];omega
   have wi2:IntKind.wrap .i64 (i:Int)=(i:Int):=by rw [IntKind.wrap_i64];omega
   obtain ⟨P,hfind,hget⟩:=sqfindget (k:=k) (m:=500) hs ht hS hroot (by omega) ((hall i).2 hlt)
   have hnb:=names_back (a:=(i:Int)) (by omega) (by omega)
   have hcol:=column_ok (lettersP (i:Int)) (by have:=letters_len (i:Int);omega)
   rw [hnb] at hcol
   have hlet:=letters_ok (i:Int)
   generalize lettersP (i:Int)=ls at *
   simp (disch:=first|assumption|omega|(simp only [List.length_append,List.length_cons,List.length_nil];omega)) only [go_sem,hf,hlt',wi]
   refine (hfind s4 hp4).mono ?_
   rintro w s5 ⟨rfl,hp5⟩
   simp (disch:=first|assumption|omega|(simp only [List.length_append,List.length_cons,List.length_nil];omega)) only [go_sem,hf]
   refine (hget s5 hp5).mono ?_
   rintro w s6 ⟨rfl,hp6⟩
   simp (disch:=first|assumption|omega|(simp only [List.length_append,List.length_cons,List.length_nil];omega)) only [go_sem,hf,wi2]
   refine hlet.use ?_
   simp (disch:=first|assumption|omega|(simp only [List.length_append,List.length_cons,List.length_nil];omega)) only [go_sem,hf]
   refine hcol.use ?_
   simp (disch:=first|assumption|omega|(simp only [List.length_append,List.length_cons,List.length_nil];omega)) only [go_sem,hf,wi,eq_self]
   refine ⟨i+1,by omega,?_⟩
   rw [hJ3]
   refine ⟨by omega,?_,hp6⟩
   simp (disch:=first|assumption|omega|(simp only [List.length_append,List.length_cons,List.length_nil];omega)) only [go_sem,hf]
  ·have hlt':¬ (i:Int)<60:=by omega
   simp (disch:=first|assumption|omega|(simp only [List.length_append,List.length_cons,List.length_nil];omega)) only [go_sem,hf,hlt']
   refine retC_by (σ':=σ1) (fun x=>?_) (.refl _) ⟨rfl,rfl⟩
   cases hc:σ1 x with
   | none=>exact .inr rfl
   | some r=>exact .inl (hp4.at (hkb x r hc)).symm
 simp (disch:=first|assumption|omega|(simp only [List.length_append,List.length_cons,List.length_nil];omega)) only [go_sem]
 obtain ⟨J,hJ⟩:∃ J:Nat->AFr->ASt->Prop,J=fun i a1 s2=>i<=60/\(a1 0 = .sl .shr LV/\a1 4 = .ptr s 0/\a1 6 = .int .i64 i)/\Coming base p root troot i s2:=⟨_,rfl⟩
 refine wp_loop_on J (fun i=>60-i) 0 ?_ ?_
 ·rw [hJ]
  refine ⟨Nat.zero_le _,?_,.inl ⟨Nat.zero_le _,_,pg,T,M,by omega,hone,h4⟩⟩
  simp (disch:=first|assumption|omega|(simp only [List.length_append,List.length_cons,List.length_nil];omega)) only [go_sem]
 intro i a1 s2 hj
 rw [hJ] at hj
 obtain ⟨hi,hf,hcom⟩:=hj
 by_cases hlt:i<60
 ·have hlt':(i:Int)<60:=by omega
  have wi:IntKind.wrap .u64 (i:Int)=(i:Int):=by rw [IntKind.wrap_u64];omega
  simp (disch:=first|assumption|omega|(simp only [List.length_append,List.length_cons,List.length_nil];omega)) only [go_sem,hf,hlt',wi]
  refine (coming_step hs ht hlt hcom).mono ?_
  rintro w s3 ⟨rfl,hc3⟩
  simp (disch:=first|assumption|omega|(simp only [List.length_append,List.length_cons,List.length_nil];omega)) only [go_sem,hf]
  refine ⟨i+1,by omega,?_⟩
  rw [hJ]
  refine ⟨by omega,?_,hc3⟩
  simp (disch:=first|assumption|omega|(simp only [List.length_append,List.length_cons,List.length_nil];omega)) only [go_sem,hf]
 ·have hlt':¬ (i:Int)<60:=by omega
  obtain rfl:i=60:=by omega
  have h60:=coming_done hcom
  simp (disch:=first|assumption|omega|(simp only [List.length_append,List.length_cons,List.length_nil];omega)) only [go_sem,hf,hlt']
  obtain ⟨J2,hJ2⟩:∃ J:Nat->AFr->ASt->Prop,J=fun q a2 s3=>q<=8/\(a2 0 = .sl .shr LV/\a2 4 = .ptr s 0/\a2 7 = .int .i64 ((2*q:Nat):Int))/\Sixty base p root troot (223+16*q) s3:=⟨_,rfl⟩
  refine wp_loop_on J2 (fun q=>9-q) 0 ?_ ?_
  ·rw [hJ2]
   refine ⟨Nat.zero_le _,?_,h60⟩
   simp (disch:=first|assumption|omega|(simp only [List.length_append,List.length_cons,List.length_nil];omega)) only [go_sem,hf]
  intro q a2 s3 hj2
  rw [hJ2] at hj2
  obtain ⟨hq,hg,hsx⟩:=hj2
  by_cases hc:2*q+1<L.length/\q<8
  ·obtain ⟨x,hx⟩:∃ x,L[2*q]? = some x:=⟨_,List.getElem?_eq_getElem (by omega)⟩
   obtain ⟨y,hy⟩:∃ y,L[2*q+1]? = some y:=⟨_,List.getElem?_eq_getElem (by omega)⟩
   have gx:=hkg _ _ hx
   have gy:=hkg _ _ hy
   obtain ⟨u,hu,u1,u2,u3,u4⟩:=rem60 x
   obtain ⟨v,hv,v1,v2,v3,v4⟩:=rem60 y
   obtain ⟨Q,hQ⟩:∃ Q,Q=2*q:=⟨_,rfl⟩
   rw [<-hQ] at gx gy hg
   have c1:(Q:Int)+1<(L.length:Int):=by omega
   have c2:(Q:Int)<16:=by omega
   have c3:(Q:Int)<(L.length:Int):=by omega
   have e1:((Q:Int)+1).toNat=Q+1:=by omega
   simp (disch:=first|assumption|omega|(simp only [List.length_append,List.length_cons,List.length_nil];omega)) only [go_sem,hg,hkl,c1,c2,c3,gx,gy,u1,u2,u3,u4,v1,v2,v3,v4,e1,Int.toNat_natCast]
   refine (sixty_move hs ht (by omega) hu hv hsx).mono ?_
   rintro w s4 ⟨rfl,hs4⟩
   simp (disch:=first|assumption|omega|(simp only [List.length_append,List.length_cons,List.length_nil];omega)) only [go_sem,hg]
   refine ⟨q+1,by omega,?_⟩
   rw [hJ2]
   have e2:((2*(q+1):Nat):Int)=(Q:Int)+2:=by omega
   refine ⟨by omega,?_,hs4⟩
   rw [e2]
   simp (disch:=first|assumption|omega|(simp only [List.length_append,List.length_cons,List.length_nil];omega)) only [go_sem,hg]
  ·obtain ⟨Q,hQ⟩:∃ Q,Q=2*q:=⟨_,rfl⟩
   rw [<-hQ] at hg
   by_cases c1:(Q:Int)+1<(L.length:Int)
   ·have c2:¬ (Q:Int)<16:=by omega
    simp (disch:=first|assumption|omega|(simp only [List.length_append,List.length_cons,List.length_nil];omega)) only [go_sem,hg,hkl,c1,c2]
    refine hend _ _ _ hsx ?_
    simp (disch:=first|assumption|omega|(simp only [List.length_append,List.length_cons,List.length_nil];omega)) only [go_sem,hg]
   ·simp (disch:=first|assumption|omega|(simp only [List.length_append,List.length_cons,List.length_nil];omega)) only [go_sem,hg,hkl,c1]
    refine hend _ _ _ hsx ?_
    simp (disch:=first|assumption|omega|(simp only [List.length_append,List.length_cons,List.length_nil];omega)) only [go_sem,hg]
end Go.A
namespace Go.A
open Go.Proofs Go.Lib
inductive Step where
 | bad (k:Nat)
 | blank
 | tok (kind:Int) (text:List UInt8) (n:Nat)
 deriving DecidableEq
structure Tok where
 kind:Int
 text:List UInt8
 at':Nat
 col:Nat
 deriving DecidableEq
end Go.A
namespace Go.Proofs.YtppjmbcjifnmgaaGreatDoor
open Go Go.ChangeShapes Go.WideShapes Go.ChangeAt Go.RowKit Go.A Go.Lib Go.Shelf
theorem row_own:ownKnob Tryz.prog.godebug=none:=by kernel_rfl
theorem row_laid:laidOutB Tryz.prog=true:=by kernel_rfl
theorem ints_reps {σ:ASt} {w:World} {k:IntKind}:∀ zs:List Int,Reps σ w (zs.map (AV.int k)) (zs.map (Value.int k))
 | [] => .nil
 | z::zs => .cons (.int k z) (ints_reps zs)
def stOf:List (Nat×List AV)->ASt
 | [],_=>none
 | p::ps,b=>if b=p.1 then some (.fix p.2) else stOf ps b
theorem stOf_fix:∀ {ps:List (Nat×List AV)} {b:Nat} {r:Role},stOf ps b=some r->∃ l,r = .fix l
 | [],_,_,h=>by cases h
 | p::ps,b,r,h=>by
   simp only [stOf] at h
   split at h
   ·injection h with h;exact ⟨_,h.symm⟩
   ·exact stOf_fix h
theorem stOf_mem:∀ {ps:List (Nat×List AV)} {b:Nat} {r:Role},stOf ps b=some r->∃ l,(b,l)∈ps/\r = .fix l
 | [],_,_,h=>by cases h
 | p::ps,b,r,h=>by
   simp only [stOf] at h
   split at h
   ·rename_i hb
    injection h with h
    subst hb
    exact ⟨p.2,List.mem_cons_self,h.symm⟩
   ·obtain ⟨l,hl,he⟩:=stOf_mem h
    exact ⟨l,List.mem_cons_of_mem _ hl,he⟩
theorem still_fix {σ:ASt} (hfx:∀ b r,σ b=some r->∃ l,r = .fix l) {w:World} {b o:Nat} (h:b<w.heap.size):Still σ w b o:=by
 refine ⟨h,?_⟩
 cases hb:σ b with
 | none=>exact .inl rfl
 | some r=>obtain ⟨l,rfl⟩:=hfx b r hb;exact .inr (.inl ⟨_,rfl⟩)
end Go.Proofs.YtppjmbcjifnmgaaGreatDoor
namespace Go.A
section
variable {σ:ASt} {w:World}
theorem Still.fixed (hfx:∀ b r,σ b=some r->∃ l,r = .fix l) {b o:Nat} (h:Still noRole w b o):Still σ w b o:=by
 refine ⟨h.1,?_⟩
 cases hb:σ b with
 | none=>exact .inl rfl
 | some r=>obtain ⟨l,rfl⟩:=hfx b r hb;exact .inr (.inl ⟨_,rfl⟩)
theorem Stands.fixed (hfx:∀ b r,σ b=some r->∃ l,r = .fix l) (b:Nat):Stands σ b:=by
 refine ⟨fun cs h=>?_,fun l p h=>?_,fun T cs h=>?_,fun l h=>?_⟩<;>(obtain ⟨l,hl⟩:=hfx b _ h;cases hl)
theorem SK.ok_fixed (hfx:∀ b r,σ b=some r->∃ l,r = .fix l) {k:SK} {b o n c sz:Nat} (h:k.ok noRole w b o n c sz):k.ok σ w b o n c sz:=by
 cases k with
 | shr=>trivial
 | lit=>
   refine ⟨h.1,h.2.1,?_,h.2.2.2⟩
   cases hb:σ b with
   | none=>exact .inl rfl
   | some r=>obtain ⟨l,rfl⟩:=hfx b r hb;exact .inr ⟨_,rfl⟩
 | full=>exact h
 | tok t s T=>exact ⟨h.1,h.2.1,h.2.2.1,h.2.2.2.1,Stands.fixed hfx b⟩
mutual
theorem Rep.fixed (hfx:∀ b r,σ b=some r->∃ l,r = .fix l):∀ {a:AV} {v:Value},Rep noRole w a v->Rep σ w a v
 | _,_,.any v => .any v
 | _,_,.bool b => .bool b
 | _,_,.int k n => .int k n
 | _,_,.str l => .str l
 | _,_,.ptr b o => .ptr b o
 | _,_,.imm h1 => .imm (h1.fixed hfx)
 | _,_,.nilp => .nilp
 | _,_,.slE A c => .slE A c
 | _,_,.slN => .slN
 | _,_,.sl h1 h2 h3 h4 h5 => .sl (h1.fixed hfx) h2 h3 (SK.ok_fixed hfx h4) h5
 | _,_,.msl b o n c => .msl b o n c
 | _,_,.agg h1 => .agg (h1.fixed hfx)
 | _,_,.tuple h1 => .tuple (h1.fixed hfx)
 | _,_,.iface h1 => .iface (h1.fixed hfx)
 | _,_,.nili => .nili
 | _,_,.func h1 h2 => .func (h1.fixed hfx) (h2.fixed hfx)
 | _,_,.nilf => .nilf
 | _,_,.map x => .map x
theorem Reps.fixed (hfx:∀ b r,σ b=some r->∃ l,r = .fix l):∀ {avs:List AV} {vs:List Value},Reps noRole w avs vs->Reps σ w avs vs
 | _,_,.nil => .nil
 | _,_,.cons h1 h2 => .cons (h1.fixed hfx) (h2.fixed hfx)
theorem At.fixed (hfx:∀ b r,σ b=some r->∃ l,r = .fix l):∀ {b o:Nat} {avs:List AV},At noRole w b o avs->At σ w b o avs
 | _,_,_,.nil b o => .nil b o
 | _,_,_,.cons h1 h2 h3 h4 => .cons (h1.fixed hfx) h2 (h3.fixed hfx) (h4.fixed hfx)
theorem Row.fixed (hfx:∀ b r,σ b=some r->∃ l,r = .fix l):∀ {b o sz:Nat} {avs:List AV},Row noRole w b o sz avs->Row σ w b o sz avs
 | _,_,_,_,.nil b o sz => .nil b o sz
 | _,_,_,_,.cons h1 h2 h3 => .cons h1 (h2.fixed hfx) (h3.fixed hfx)
end
end
end Go.A
namespace Go.Proofs.YtppjmbcjifnmgaaGreatDoor
open Go Go.ChangeShapes Go.WideShapes Go.ChangeAt Go.RowKit Go.A Go.Lib Go.Shelf
theorem calls_st {ps:List (Nat×List AV)} {f:FuncId} {args:List AV} {vs:List Value} {w:World} (h:ACalls Tryz.prog f args (stOf ps) fun r σ'=>r = .bool true/\σ'=stOf ps) (hs:Sim (stOf ps) w) (hr:Reps (stOf ps) w args vs) :
  Calls Tryz.prog f ⟨vs⟩ w fun e w'=>e = .returned (.bool true)/\Ext w w':=
 (h w vs hs hr).mono fun e w' ⟨u,r,σ',he,⟨hrt,hst⟩,hle,_,hrep⟩=>by
  subst hrt hst
  cases hrep
  refine ⟨he,Ext.of_below ⟨hle.os,hle.tape,hle.output,hle.size,fun k hk=>?_⟩⟩
  cases hn:stOf ps k with
  | none=>exact (hle.keep k hk hn).2
  | some r=>
    obtain ⟨l,rfl⟩:=stOf_fix hn
    exact (hle.fix k _ hk hn).2
end Go.Proofs.YtppjmbcjifnmgaaGreatDoor
namespace Go.Proofs.YtppjmbcjifnmgaaGreatDoor
open Go Go.ChangeShapes Go.WideShapes Go.ChangeAt Go.RowKit Go.A Go.Lib Go.Shelf
def ckZ:List Int:=ckT.map fun (n:Nat)=>(n:Int)
theorem ckZ_av:ckZ.map (AV.int .u32)=ckAV:=by unfold ckZ ckAV;rw [List.map_map];rfl
theorem ck_eq:(Rows.laid_tabular_check_table:DataW Unit)=Lib.tabData .u32 ckZ:=by kernel_rfl
theorem ck_role {σ : ASt} {W : World} (hfx : ∀ b r, σ b = some r → ∃ l, r = .fix l) (h3 : VarReads Tryz.prog W "tabular/check.table" (Lib.tabData .u32 ckZ)) :
  RoleOk σ W 0 (.fix ckAV):=by
 rw [<-ckZ_av]
 obtain ⟨g',t',cs,fuel,p,hg',ht',hvar,hd⟩:=h3
 obtain rfl := Option.some.inj ((show Tryz.prog.globalNamed "tabular/check.table" = some 0 by kernel_rfl).symm.trans hg')
 obtain rfl:=Option.some.inj ((show (Tryz.prog.globals[0]?).map (·.type)=some 164 by kernel_rfl).symm.trans ht')
 have hcs:=cells_of_tab (n:=16) (e:=74) (k := .u32) (by kernel_rfl) (by kernel_rfl) (by kernel_rfl) (by kernel_rfl) hd
 unfold World.var? at hvar
 rw [show Tryz.prog.globalNamed "tabular/check.table" = some 0 by kernel_rfl, Option.bind_some] at hvar
 split at hvar
 ·rename_i cs' T fr hheap
  injection hvar with hvar
  have hlt:0<W.heap.size:=(Array.getElem?_eq_some_iff.1 hheap).1
  have he:cs'=(ckZ.map fun z=>Value.int .u32 z).toArray:=by rw [hvar];exact Array.ext' (by simpa using hcs)
  refine ⟨At.mk' (ints_reps _) (fun j _=>still_fix hfx hlt) (fun j v hj=>?_),cs',T,fr,hheap,by rw [he];simp⟩
  simp only [World.cell?,hheap,Nat.zero_add,he]
  simpa using hj
 ·cases hvar
def laidC : List (String × DataW Unit) := [("tabular/check.table", Rows.laid_tabular_check_table)]
def cPs:List (Nat×List AV) := [(0,ckAV)]
def cSt:ASt:=stOf cPs
theorem cSt_ck:CkT cSt:=by simp [CkT,cSt,cPs,stOf]
theorem c_sim {W:World} (h:laidMetH Tryz.prog laidC W):Sim cSt W:=by
 rw [MakeChecks.laidMetH_plain _ _ _ (by kernel_rfl)] at h
 have hc : VarReads Tryz.prog W "tabular/check.table" (Lib.tabData .u32 ckZ) := ck_eq ▸ Lib.laidMet.reads h (.head _)
 intro b r hb
 obtain ⟨l,hl,rfl⟩:=stOf_mem hb
 simp only [cPs,List.mem_cons,List.not_mem_nil,or_false,Prod.mk.injEq] at hl
 obtain ⟨rfl,rfl⟩:=hl
 exact ck_role (fun _ _=>stOf_fix) hc
theorem calls_c {f:FuncId} {args:List AV} {vs:List Value} {w:World} (h:ACalls Tryz.prog f args cSt fun r σ'=>r = .bool true/\σ'=cSt) (hs:Sim cSt w) (hr:Reps cSt w args vs) :
  Calls Tryz.prog f ⟨vs⟩ w fun e w'=>e = .returned (.bool true)/\Ext w w':=calls_st h hs hr
end Go.Proofs.YtppjmbcjifnmgaaGreatDoor
end
