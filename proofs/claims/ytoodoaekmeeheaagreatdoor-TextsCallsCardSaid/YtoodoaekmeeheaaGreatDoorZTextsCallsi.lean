/- Part 9 of what TextsCalls leans on: Tcg CodeTch Tch CodeTci Tci CodeTcj. -/
import Derived.Test.YtoodoaekmeeheaaGreatDoorProg
import Derived.KernelRfl
import Derived.Test.YtoodoaekmeeheaaGreatDoorZTextsCallsh
set_option linter.defProp false
set_option linter.unusedSimpArgs false
set_option linter.unusedVariables false
set_option maxRecDepth 100000
namespace Go.A
open Go.Proofs Go.Shelf Go.RowKit
section
variable {P:Program} {ρ:Ren}
theorem view_runs {r:Nat} {w:World} (h:r<w.heap.size):∃ o,(viewAt r).run P w = .ok o w:=by
 obtain ⟨x,hx⟩:∃ x,w.heap[r]? = some x:=⟨_,Array.getElem?_eq_getElem h⟩
 unfold viewAt
 cases hs:w.shape? r with
 | some sh=>exact ⟨none,by simp [hs]⟩
 | none=>
   cases x with
   | cells c T f=>simp [World.shape?,hx] at hs
   | _=>exact ⟨_,by simp [hs,getObj,Sem.run,hx];rfl⟩
theorem sd_runs {ts:Array TypeId} {ty e:TypeId} (hp:P.underlying ty=some (.pointer e)) {a:Addr} {c:Nat} {w:World} (h:a.block<w.heap.size) :
  ∃ p w1,(Builtin.unsafeSliceData_ ts ty #[.slice (some a) 0 c]).run P w = .ok (.pointer p) w1/\Ext w w1:=by
 by_cases hc:c=0
 ·subst hc
  obtain ⟨o,ho⟩:=view_runs (P:=P) h
  have hdef:Builtin.unsafeSliceData_ ts ty #[.slice (some a) 0 0] =
    (do
     if (0:Nat)≠0 then pure (.pointer (some a))
     else if (← viewAt a.block).isSome then pure (.pointer (some a))
     else pure (.pointer (some ⟨← newObj (.view a (← elemOf ty)),0,none⟩))):=rfl
  rw [hdef]
  cases o with
  | some o=>exact ⟨some a,w,by simp [ho],.refl w⟩
  | none=>exact ⟨_,_,by simp [ho,elemOf,run_underlying hp];exact ⟨rfl,rfl⟩,Ext.alloc (Ext.refl w) _⟩
 ·exact ⟨some a,w,Lib.run_unsafeSliceData_row _ _ _ _ _ _ hc,.refl w⟩
set_option maxHeartbeats 2000000 in
theorem bstr_zero (L:Lays.n169 P ρ) (X:Builder.Extra P ρ) (b c:Nat) (a:Addr) (w:World) (hc1:w.cell? ⟨b,1,none⟩=some (.slice (some a) 0 c)) (ha:a.block<w.heap.size) :
  Calls P (ρ.f 169) #[.pointer (some ⟨b,0,none⟩)] w fun e w'=>e = .returned (.string ⟨#[]⟩)/\Ext w w':=by
 have c1:w.drew.cell? ⟨b,1,none⟩=some (.slice (some a) 0 c):=hc1
 have mixed:=L.mixed
 have t72:=L.t72;have a72:=L.a72;have z72:=L.z72;have v72:=L.v72;have u72:=run_underlying L.t72
 have t70:=L.t70;have a70:=L.a70;have z70:=L.z70;have v70:=L.v70;have u70:=run_underlying L.t70
 have t37:=L.t37;have a37:=L.a37;have z37:=L.z37;have v37:=L.v37;have u37:=run_underlying L.t37
 have t127:=L.t127;have a127:=L.a127;have z127:=L.z127;have v127:=L.v127;have u127:=run_underlying L.t127
 have t3:=L.t3;have a3:=L.a3;have z3:=L.z3;have v3:=L.v3;have u3:=run_underlying L.t3
 have t9:=L.t9;have a9:=L.a9;have z9:=L.z9;have v9:=L.v9;have u9:=run_underlying L.t9
 have t5:=X.t5;have a5:=X.a5;have z5:=X.z5;have v5:=X.v5;have u5:=run_underlying X.t5
 obtain ⟨p,w1,hSD,hx⟩:=sd_runs (P:=P) (ts := #[(ρ.t 37)]) L.t127 (c:=c) (show a.block<w.drew.heap.size from ha)
 have hx':Ext w w1:=(Ext.drew (Ext.refl w)).trans hx
 have hUS:(Builtin.unsafeString_ #[(ρ.t 127),(ρ.t 3)] (ρ.t 9) #[.pointer p,.int .i64 0]).run P w1 = .ok (.string ⟨#[]⟩) w1:=Lib.run_unsafeString_none _ _ _ _ p
 have c2:w1.cell? ⟨b,1,none⟩=some (.slice (some a) 0 c):=hx.cell c1
 go_enter L.f169,Body.n169_ntmps ρ
 go_wp2
 go_region_o
 all_goals (go_wp2;go_ret;exact ⟨rfl,hx'⟩)
end
end Go.A
namespace Go.A
open Go.Proofs Go.Lib
theorem bstring_empty {σ:ASt} {b:Nat} {x:AV} {k:SK} (hk:k ≠ .shr) (h:σ b=some (.obj [x,.sl k []])):ACalls Tryz.prog 91 [.ptr b 0] σ fun v σ'=>v = .str []/\σ'=σ:=by
 intro w vs hs ha
 cases ha with
 | cons h1 h2=>
 cases h1;cases h2
 obtain ⟨us,h3,h4,h9⟩:=hs.objCell h
 cases h3 with
 | cons h5 h6=>
 cases h6 with
 | cons h7 h8=>
 cases h8
 have hc:=h4 1 _ rfl
 have nil_case:w.cell? ⟨b,1,none⟩=some (.slice none 0 0)->Calls Tryz.prog 91 #[.pointer (some ⟨b,0,none⟩)] w fun e w'=>e = .returned (.string ⟨#[]⟩)/\Ext w w':=fun hc=>by
  refine (bstr_nil Tryz.lays169 Tryz.Builder_Extra_169 b w hc).mono ?_
  rintro e w' ⟨rfl,rfl⟩
  exact ⟨rfl,Ext.drew (Ext.refl w)⟩
 generalize hxs:([]:List AV)=xs at h7
 cases h7 with
 | slE A c=>exact absurd rfl hk
 | slN=>
   refine (nil_case hc).mono ?_
   rintro e w' ⟨rfl,hx⟩
   exact ⟨_,_,_,rfl,⟨rfl,rfl⟩,ext_le hx,hs.ext hx,.str []⟩
 | sl r1 r2 r3 r4 r5=>
   subst hxs
   subst r2
   refine (bstr_zero Tryz.lays169 Tryz.Builder_Extra_169 b _ _ w hc r5).mono ?_
   rintro e w' ⟨rfl,hx⟩
   exact ⟨_,_,_,rfl,⟨rfl,rfl⟩,ext_le hx,hs.ext hx,.str []⟩
end Go.A
namespace Go.A
open Go.Proofs
/-! 56: tabular/texts.rept -/
def c56_9:ACode := .seq (.ops [ oq 4 (.mv (.v .nili))]) (.seq (.seq (.ops [ oq 5 (.mv (.t 1)),oq 6 (.bin .lss (.t 5) (.v (.int .i64 0))),oq 7 (.mv (.t 6)),⟨some 8,some (7,false),.q (.mv (.t 1)),[]⟩,⟨some 9,some (7,false),.q (.bin .gtr (.t 8) (.v (.int .i64 0))),[]⟩,⟨some 10,some (7,false),.q (.mv (.t 9)),[]⟩,⟨some 11,some (10,true),.q (.mv (.t 0)),[]⟩,⟨some 12,some (10,true),.q (.lenS (.t 11)),[]⟩,⟨some 13,some (10,true),.q (.mv (.t 1)),[]⟩,⟨some 14,some (10,true),.q (.bin .quo (.v (.int .i64 2000)) (.t 13)),[]⟩,⟨some 15,some (10,true),.q (.bin .gtr (.t 12) (.t 14)),[]⟩,⟨some 16,some (7,false),.q (.pick (.t 10) (.t 15) (.v (.bool false))),[]⟩,oq 17 (.pick (.t 7) (.v (.bool true)) (.t 16))]) (.cond (.t 17) (.seq (.ops [ oq 18 (.mki 46 (.v (.int .i64 3))),oq 4 (.mv (.t 18))]) .ret) .skip)) (.seq (.ops [ oq 19 (.mv (.t 0)),oq 20 (.mv (.t 1)),oe 21 (.call 84 [(.t 19),(.t 20)]),oq 22 (.mki 89 (.t 21)),oq 4 (.mv (.t 22))]) .ret))
@[go_sem] def c56_9_wp:=wp_of c56_9.eq_1
def c56:AFn:=⟨23,[.t 4],c56_9⟩
theorem c56_ok:compF Tryz.prog Tryz.f56=some c56:=by kernel_rfl
theorem a56 {args:List AV} {σ:ASt} {R:AV->ASt->Prop} (hl:args.length<=23) (h:c56_9.wp Tryz.prog (RetQ [.t 4] R) (init args) σ):ACalls Tryz.prog 56 args σ R:=acalls_of Tryz.func56 c56_ok hl h
/-! 60: tabular/texts.substitute -/
def c60_25:ACode := .seq (.block 1 (.seq (.ops [ oq 21 (.mv (.t 0)),oq 22 (.mv (.t 1)),oe 23 (.call 88 [(.t 21),(.t 22)]),oq 20 (.mv (.t 23)),oq 24 (.ext 0 (.t 20)),oq 25 (.ext 1 (.t 20)),oq 26 (.ext 2 (.t 20)),oq 11 (.mv (.t 24)),oq 12 (.mv (.t 25)),oq 13 (.mv (.t 26))]) (.seq (.ops [ oq 27 (.mv (.t 11)),oe 28 (.call 89 [(.t 9),(.t 27)])]) (.seq (.seq (.ops [ oq 29 (.mv (.t 13)),oq 30 (.un .not (.t 29)),oq 31 (.mv (.t 30)),⟨some 32,some (31,false),.e (.call 90 [(.t 9)]),[]⟩,⟨some 33,some (31,false),.q (.bin .gtr (.t 32) (.v (.int .i64 2000))),[]⟩,oq 34 (.pick (.t 31) (.v (.bool true)) (.t 33))]) (.cond (.t 34) (.exit 0) .skip)) (.seq (.seq (.ops [ oq 35 (.mv (.t 3)),oq 36 (.bin .eql (.t 35) (.v (.int .i64 0))),oq 37 (.mv (.t 36)),⟨some 38,some (37,false),.q (.mv (.t 10)),[]⟩,⟨some 39,some (37,false),.q (.mv (.t 3)),[]⟩,⟨some 40,some (37,false),.q (.bin .eql (.t 38) (.t 39)),[]⟩,oq 41 (.pick (.t 37) (.v (.bool true)) (.t 40))]) (.cond (.t 41) (.ops [ oq 42 (.mv (.t 2)),oe 43 (.call 89 [(.t 9),(.t 42)])]) (.ops [ oq 44 (.mv (.t 1)),oe 45 (.call 89 [(.t 9),(.t 44)])]))) (.ops [ oq 46 (.mv (.t 12)),oq 0 (.mv (.t 46))])))))) (.ops [ oq 18 (.mv (.t 10)),oq 19 (.bin .add (.t 18) (.v (.int .i64 1))),oq 10 (.mv (.t 19))])
def c60_30:ACode := .seq (.ops [ oe 47 (.call 91 [(.t 9)]),oe 48 (.call 77 [(.t 47)]),oq 8 (.mv (.t 48))]) .ret
def c60_34:ACode := .seq (.ops [ oq 8 (.mv (.v .nili))]) (.seq (.seq (.ops [ oq 14 (.mv (.t 1)),oq 15 (.bin .eql (.t 14) (.v (.str [])))]) (.cond (.t 15) (.seq (.ops [ oq 16 (.mv (.t 0)),oq 17 (.mki 89 (.t 16)),oq 8 (.mv (.t 17))]) .ret) .skip)) (.seq (.ops [ oe 9 (.allocT 134)]) (.seq (.seq (.ops [ oq 10 (.mv (.v (.int .i64 1)))]) (.block 0 (.loop c60_25))) c60_30)))
@[go_sem] def c60_25_wp:=wp_of c60_25.eq_1
@[go_sem] def c60_30_wp:=wp_of c60_30.eq_1
@[go_sem] def c60_34_wp:=wp_of c60_34.eq_1
def c60:AFn:=⟨49,[.t 8],c60_34⟩
theorem c60_ok:compF Tryz.prog Tryz.f60=some c60:=by kernel_rfl
theorem a60 {args:List AV} {σ:ASt} {R:AV->ASt->Prop} (hl:args.length<=49) (h:c60_34.wp Tryz.prog (RetQ [.t 8] R) (init args) σ):ACalls Tryz.prog 60 args σ R:=acalls_of Tryz.func60 c60_ok hl h
/-! 90: (*strings.Builder).Len -/
def c90_3:ACode := .seq (.ops [ oq 2 (.mv (.v (.int .i64 0)))]) (.seq (.ops [ oq 3 (.mv (.t 0)),oq 4 (.nc (.t 3)),oq 5 (.fa 1 (.t 4)),oq 6 (.ld none (.t 5)),oq 7 (.len (.t 6)),oq 2 (.mv (.t 7))]) .ret)
@[go_sem] def c90_3_wp:=wp_of c90_3.eq_1
def c90:AFn:=⟨8,[.t 2],c90_3⟩
theorem c90_ok:compF Tryz.prog Tryz.f90=some c90:=by kernel_rfl
theorem a90 {args:List AV} {σ:ASt} {R:AV->ASt->Prop} (hl:args.length<=8) (h:c90_3.wp Tryz.prog (RetQ [.t 2] R) (init args) σ):ACalls Tryz.prog 90 args σ R:=acalls_of Tryz.func90 c90_ok hl h
end Go.A
section
attribute [local go_sem] reduceCtorEq Nat.reduceEqDiff Nat.reduceAdd Nat.reduceSub Nat.reduceMul Nat.reduceLeDiff Int.reduceLT Int.reduceLE Int.reduceEq Int.reduceNeg Int.reduceAdd Int.reduceSub Int.reduceMul true_imp_iff forall_const Nat.mul_one Int.reduceToNat Nat.reducePow Int.reducePow Bool.true_and Bool.false_and Bool.and_false
attribute [local go_sem ↓] reduceIte
namespace Go.A
open Go.Proofs Go.Lib
def BZ (σ0:ASt) (b:Nat) (l:List UInt8) (σ:ASt):Prop:=∃ k,GT (σ0.set b (some (.obj [.ptr b 0,.sl k (bytesAV l)]))) σ k l.length 1
theorem writeZ_ok {σ0 σ:ASt} {b:Nat} {l:List UInt8} (h:BD σ0 b l σ\/BZ σ0 b l σ) (m:List UInt8) (hl:l.length+m.length<=1000000000) :
  ACalls Tryz.prog 89 [.ptr b 0,.str m] σ fun v σ'=>v = .tuple [.int .i64 m.length,.nili]/\BZ σ0 b (l++m) σ':=by
 have hcc:ACalls Tryz.prog 118 [.ptr b 0] σ fun v σ'=>v = .tuple []/\BZ σ0 b l σ':=by
  rcases h with h|⟨k,hg⟩
  ·exact cc_ok h
  ·refine (copyCheck_used (hg.at (ASt.set_same _ _ _))).mono ?_
   rintro v σ' ⟨rfl,rfl⟩
   exact ⟨rfl,k,hg⟩
 refine a89 (by simp) ?_
 simp (disch:=first|assumption|omega|(simp only [List.length_append,List.length_cons,List.length_nil];omega)) only [go_sem]
 refine hcc.mono ?_
 rintro v σ1 ⟨rfl,k,hg⟩
 have hb:=hg.at (ASt.set_same _ _ _)
 simp (disch:=first|assumption|omega|(simp only [List.length_append,List.length_cons,List.length_nil];omega)) only [go_sem,hb]
 refine appsB_by hg (by omega) fun k' σ' hg'=>?_
 have hb':=hg'.at (ASt.set_same _ _ _)
 simp (disch:=first|assumption|omega|(simp only [List.length_append,List.length_cons,List.length_nil];omega)) only [go_sem,hb']
 exact retC_by (Drop.refl _) (.refl _) ⟨rfl,k',hg'.obj⟩
theorem lenZ_ok {σ0 σ:ASt} {b:Nat} {l:List UInt8} (h:BZ σ0 b l σ):ACalls Tryz.prog 90 [.ptr b 0] σ fun v σ'=>v = .int .i64 l.length/\σ'=σ:=by
 obtain ⟨k,hg⟩:=h
 have hb:=hg.at (ASt.set_same _ _ _)
 have hl:=bytesAV_len l
 refine a90 (by simp) ?_
 simp (disch:=first|assumption|omega|(simp only [List.length_append,List.length_cons,List.length_nil];omega)) only [go_sem,hb,hl]
 exact retC_by (Drop.refl _) (.refl _) ⟨rfl,rfl⟩
theorem strZ_ok {σ0 σ:ASt} {b:Nat} {l:List UInt8} (h:BZ σ0 b l σ) (hl:l.length<=1000000000):ACalls Tryz.prog 91 [.ptr b 0] σ fun v σ'=>v = .str l/\σ'=σ:=by
 obtain ⟨k,hg⟩:=h
 have hb:=hg.at (ASt.set_same _ _ _)
 by_cases h0:l = []
 ·subst h0
  refine bstring_empty ?_ hb
  rcases hg with ⟨rfl,_,_⟩|⟨g,rfl,_,_⟩
  ·intro e;cases e
  ·intro e;cases e
 ·exact bstring_ok (.inr ⟨h0,k,hg⟩) hl
theorem BZ.keep {σ0 σ:ASt} {b x:Nat} {l:List UInt8} {r:Role} (h:BZ σ0 b l σ) (hb:σ0 b=none) (hx:σ0 x=some r):σ x=some r:=by
 obtain ⟨k,hg⟩:=h
 exact hg.at (by rw [ASt.set_ne (by rintro rfl;rw [hb] at hx;cases hx)];exact hx)
theorem BZ.drop {σ0 σ:ASt} {b:Nat} {l:List UInt8} (h:BZ σ0 b l σ) (hb:σ0 b=none):Drop σ σ0:=by
 obtain ⟨k,hg⟩:=h
 exact hg.drop.trans (Drop.set hb)
theorem cutg_ok {σ:ASt} (hM:MaxL σ) (s t:List UInt8) (hs:s.length<=1000000000):ACalls Tryz.prog 88 [.str s,.str t] σ fun v σ'=>v = .tuple [.str (Lib.cut s t).1,.str (Lib.cut s t).2.1,.bool (Lib.cut s t).2.2]/\σ'=σ:=by
 obtain ⟨m,hm⟩:=hM
 refine ACalls.of_below (u := .tuple #[.string ⟨(Lib.cut s t).1.toArray⟩,.string ⟨(Lib.cut s t).2.1.toArray⟩,.bool (Lib.cut s t).2.2]) (fun w vs hsim ha=>?_) fun w => .tuple (.cons (.str _) (.cons (.str _) (.cons (.bool _) .nil)))
 cases ha with
 | cons h1 h2=>
 cases h2 with
 | cons h2 h3=>
 cases h3;cases h1;cases h2
 have hcell:=fix_ints hsim hm 0 m rfl
 have e1:(⟨⟨s⟩⟩:ByteArray).size=s.length:=rfl
 refine (Tryz.strings_Cut ⟨⟨s⟩⟩ ⟨⟨t⟩⟩ m w (by rw [e1];omega) hcell).mono ?_
 rintro e w' ⟨rfl,n,rfl⟩
 exact ⟨rfl,rfl,rfl,rfl,Nat.le_refl _,fun _ _=>rfl⟩
theorem sub_cut {old wth:List UInt8} {n:Int} (h0:old ≠ []):∀ (s:List UInt8) (k:Nat),
  subR old wth n k s=if Lib.index s old<0 then s else s.take (Lib.index s old).toNat++((if n=0\/n=((k+1:Nat):Int) then wth else old)++subR old wth n (k+1) (s.drop ((Lib.index s old).toNat+old.length)))
 | [],k=>by
   have:Lib.index [] old = -1:=by
    unfold Lib.index
    rw [if_neg (by simp [h0])]
   rw [this,if_pos (by decide)]
   rfl
 | c::s,k=>by
   have ih:=sub_cut (wth:=wth) (n:=n) h0 s k
   have hge:=Lib.index_ge s old
   have hst:standsP old (c::s) 0=old.isPrefixOf (c::s):=by rw [stands_occ];rfl
   rw [subR_step h0 k (by simp),hst]
   rw [Lib.index]
   generalize (if n=0\/n=((k+1:Nat):Int) then wth else old)=W at *
   by_cases hp:old.isPrefixOf (c::s)=true
   ·rw [if_pos hp,if_pos hp,if_neg (by decide)]
    simp
   ·rw [if_neg hp,if_neg hp]
    have e1:(c::s).take 1 = [c]:=rfl
    have e2:(c::s).drop 1=s:=rfl
    rw [e1,e2,ih]
    by_cases h1:Lib.index s old = -1
    ·have hb:(Lib.index s old == -1)=true:=by simpa using h1
     rw [hb,h1,if_pos (by decide),if_pos rfl,if_pos (by decide)]
     rfl
    ·have hb:(Lib.index s old == -1)=false:=by simpa using h1
     rw [hb,if_neg (by omega),if_neg (by decide:¬ (false=true)),if_neg (by omega)]
     have e3:(Lib.index s old+1).toNat=(Lib.index s old).toNat+1:=by omega
     rw [e3,List.take_succ_cons,show (Lib.index s old).toNat+1+old.length=((Lib.index s old).toNat+old.length)+1 by omega,List.drop_succ_cons]
     rfl
set_option maxHeartbeats 1000000 in
theorem xsubst_ok {σ:ASt} (hM:MaxL σ) (s old wth:List UInt8) (n:Int) (hs:s.length<=10000) (ho:old.length<=10000) (hw:wth.length<=10000):ACalls Tryz.prog 60 [.str s,.str old,.str wth,.int .i64 n] σ fun v σ'=>v=(substV s old wth n).av/\σ'=σ:=by
 unfold substV
 by_cases h0:old = []
 ·rw [if_pos h0]
  subst h0
  refine a60 (by simp) ?_
  simp only [PV.av]
  simp (disch:=first|assumption|omega|(simp only [List.length_append,List.length_cons,List.length_nil];omega)) only [go_sem]
  exact retC_by (.refl _) (.refl _) ⟨rfl,rfl⟩
 rw [if_neg h0]
 have hol:=List.length_pos_iff.2 h0
 obtain ⟨D,hD⟩:∃ D,subR old wth n 0 s=D:=⟨_,rfl⟩
 rw [hD]
 have hmade:=vmade_ok
 refine a60 (by simp) ?_
 obtain ⟨F,hF⟩:∃ F,F=ACode.wp Tryz.prog c60_30:=⟨_,rfl⟩
 simp (disch:=first|assumption|omega|(simp only [List.length_append,List.length_cons,List.length_nil];omega)) only [go_sem,h0,←hF]
 refine allocTC_by fun b hb=>?_
 have hfin:∀ (a:AFr) (σ1:ASt) (out:List UInt8),a 9 = .ptr b 0->BZ σ b out σ1->out.length<=900000000->madeT out=madeT D->F (RetQ [.t 8] fun v σ'=>v=(madeT D).av/\σ'=σ) a σ1:=by
  intro a σ1 out h9 hz hol3 he
  rw [hF]
  have hd:=hz.drop hb
  have hm:=hmade out
  rw [he] at hm
  generalize (madeT D).av=W at *
  simp (disch:=first|assumption|omega|(simp only [List.length_append,List.length_cons,List.length_nil];omega)) only [go_sem,h9]
  refine (strZ_ok hz (by omega)).mono ?_
  rintro v σ2 ⟨rfl,rfl⟩
  simp (disch:=first|assumption|omega|(simp only [List.length_append,List.length_cons,List.length_nil];omega)) only [go_sem]
  refine hm.use ?_
  simp (disch:=first|assumption|omega|(simp only [List.length_append,List.length_cons,List.length_nil];omega)) only [go_sem]
  exact retC_by hd (.refl _) ⟨rfl,rfl⟩
 simp (disch:=first|assumption|omega|(simp only [List.length_append,List.length_cons,List.length_nil];omega)) only [go_sem,h0,←hF]
 refine wp_loop_by (fun (q:List UInt8×List UInt8×Nat) a σ1=>q.1.length<=s.length/\q.2.1.length<=20000*(s.length-q.1.length)/\q.2.2<=s.length-q.1.length/\q.2.1++subR old wth n q.2.2 q.1=D/\(a 0 = .str q.1/\a 1 = .str old/\a 2 = .str wth/\a 3 = .int .i64 n/\a 9 = .ptr b 0/\a 10 = .int .i64 ((q.2.2:Int)+1))/\(BD σ b q.2.1 σ1\/BZ σ b q.2.1 σ1)) (fun q=>q.1.length) (s,[],0) (Dr.now ⟨Nat.le_refl _,Nat.zero_le _,Nat.zero_le _,by rw [<-hD];rfl,?_,.inl (.inl ⟨rfl,rfl⟩)⟩) ?_
 ·simp (disch:=first|assumption|omega|(simp only [List.length_append,List.length_cons,List.length_nil];omega)) only [go_sem]
 rintro ⟨x,out,k⟩ a σ1 ⟨hx,hou,hk,hout,hf,hz⟩
 dsimp only at hx hou hk hout hf hz ⊢
 have hM1:MaxL σ1:=by
  obtain ⟨m,hm⟩:=hM
  rcases hz with hz|hz
  ·exact ⟨m,BW.at hz (by intro e;rw [e,hb] at hm;cases hm) hm⟩
  ·exact ⟨m,hz.keep hb hm⟩
 have hcut:=cutg_ok hM1 x old (by omega)
 have hsc:=sub_cut (wth:=wth) (n:=n) h0 x k
 have hge:=Lib.index_ge x old
 have hroom:=Lib.index_room x old
 unfold Lib.cut at hcut
 by_cases hi:Lib.index x old<0
 ·rw [if_neg (by omega)] at hcut
  rw [if_pos hi] at hsc
  rw [hsc] at hout
  simp (disch:=first|assumption|omega|(simp only [List.length_append,List.length_cons,List.length_nil];omega)) only [go_sem,hf,←hF]
  refine hcut.mono ?_
  rintro v σ2 ⟨rfl,rfl⟩
  simp (disch:=first|assumption|omega|(simp only [List.length_append,List.length_cons,List.length_nil];omega)) only [go_sem,hf,←hF]
  refine (writeZ_ok hz x (by omega)).mono ?_
  rintro v σ3 ⟨rfl,hz3⟩
  rw [hout] at hz3
  have hDl:D.length<=900000000:=by rw [<-hout,List.length_append];omega
  simp (disch:=first|assumption|omega|(simp only [List.length_append,List.length_cons,List.length_nil];omega)) only [go_sem,hf,←hF]
  refine hfin _ σ3 D ?_ hz3 hDl rfl
  simp (disch:=first|assumption|omega|(simp only [List.length_append,List.length_cons,List.length_nil];omega)) only [go_sem,hf]
 ·rw [if_pos (by omega)] at hcut
  rw [if_neg hi] at hsc
  have hroom:=hroom (by omega)
  obtain ⟨p,hp⟩:∃ p:Nat,Lib.index x old=p:=⟨(Lib.index x old).toNat,by omega⟩
  rw [hp,Int.toNat_natCast] at hcut hsc
  rw [hp] at hroom
  rw [hsc] at hout
  have htl:(x.take p).length=p:=by rw [List.length_take];omega
  have hdl:(x.drop (p+old.length)).length=x.length-(p+old.length):=List.length_drop
  generalize x.take p=hd at *
  generalize x.drop (p+old.length)=tl at *
  dsimp only at hcut
  obtain ⟨A,hA⟩:∃ A,out++hd=A:=⟨_,rfl⟩
  have hAl:A.length=out.length+p:=by rw [<-hA,List.length_append,htl]
  rw [<-List.append_assoc,hA] at hout
  have hol4:out.length<=200000000:=Nat.le_trans hou (Nat.le_trans (Nat.mul_le_mul_left 20000 (Nat.sub_le _ _)) (Nat.le_trans (Nat.mul_le_mul_left 20000 hs) (by decide)))
  have ek:(k:Int)+1=((k+1:Nat):Int):=by omega
  simp (disch:=first|assumption|omega|(simp only [List.length_append,List.length_cons,List.length_nil];omega)) only [go_sem,hf,←hF]
  refine hcut.mono ?_
  rintro v σ2 ⟨rfl,rfl⟩
  simp (disch:=first|assumption|omega|(simp only [List.length_append,List.length_cons,List.length_nil];omega)) only [go_sem,hf,←hF]
  refine (writeZ_ok hz hd (by omega)).mono ?_
  rintro v σ3 ⟨rfl,hz3⟩
  rw [hA] at hz3
  by_cases hbig:2000<A.length
  ·have hbig':(2000:Int)<A.length:=by omega
   have hmD:madeT A=madeT D:=by
    unfold madeT
    rw [if_pos hbig,if_pos (by rw [<-hout,List.length_append];omega)]
   simp (disch:=first|assumption|omega|(simp only [List.length_append,List.length_cons,List.length_nil];omega)) only [go_sem,hf,←hF]
   refine (lenZ_ok hz3).mono ?_
   rintro v σ4 ⟨rfl,rfl⟩
   simp (disch:=first|assumption|omega|(simp only [List.length_append,List.length_cons,List.length_nil];omega)) only [go_sem,hf,hbig',←hF]
   refine hfin _ σ4 A ?_ hz3 (by omega) hmD
   simp (disch:=first|assumption|omega|(simp only [List.length_append,List.length_cons,List.length_nil];omega)) only [go_sem,hf]
  ·have hbig':¬ (2000:Int)<A.length:=by omega
   simp (disch:=first|assumption|omega|(simp only [List.length_append,List.length_cons,List.length_nil];omega)) only [go_sem,hf,←hF]
   refine (lenZ_ok hz3).mono ?_
   rintro v σ4 ⟨rfl,rfl⟩
   by_cases hn:n=0\/n=((k+1:Nat):Int)
   ·rw [if_pos hn] at hout
    have hn':n=0\/(n≠0/\(k:Int)+1=n):=by
     rcases hn with h|h
     ·exact .inl h
     ·by_cases hz:n=0
      ·exact .inl hz
      ·exact .inr ⟨hz,by omega⟩
    rcases hn' with hn0|⟨hn0,hnk⟩
    ·simp (disch:=first|assumption|omega|(simp only [List.length_append,List.length_cons,List.length_nil];omega)) only [go_sem,hf,hbig',hn0,←hF]
     refine (writeZ_ok (.inr hz3) wth (by omega)).mono ?_
     rintro v σ5 ⟨rfl,hz5⟩
     simp (disch:=first|assumption|omega|(simp only [List.length_append,List.length_cons,List.length_nil];omega)) only [go_sem,hf,←hF]
     refine ⟨(tl,A++wth,k+1),by dsimp only;omega,Dr.now ⟨by dsimp only;omega,?_,?_,?_,?_,.inr hz5⟩⟩
     ·dsimp only;rw [List.length_append];omega
     ·dsimp only;omega
     ·dsimp only;rw [List.append_assoc];rw [hn0] at hout;exact hout
     ·simp [AFr.upd,hf,hn0]
    ·have hnk':((k:Int)+1=n)=True:=eq_true hnk
     simp (disch:=first|assumption|omega|(simp only [List.length_append,List.length_cons,List.length_nil];omega)) only [go_sem,hf,hbig',hn0,hnk',←hF]
     refine (writeZ_ok (.inr hz3) wth (by omega)).mono ?_
     rintro v σ5 ⟨rfl,hz5⟩
     simp (disch:=first|assumption|omega|(simp only [List.length_append,List.length_cons,List.length_nil];omega)) only [go_sem,hf,←hF]
     refine ⟨(tl,A++wth,k+1),by dsimp only;omega,Dr.now ⟨by dsimp only;omega,?_,?_,?_,?_,.inr hz5⟩⟩
     ·dsimp only;rw [List.length_append];omega
     ·dsimp only;omega
     ·dsimp only;rw [List.append_assoc];exact hout
     ·simp [AFr.upd,hf]
   ·rw [if_neg hn] at hout
    have hn0:¬ n=0:=fun h=>hn (.inl h)
    have hnk:¬ (k:Int)+1=n:=fun h=>hn (.inr (by omega))
    simp (disch:=first|assumption|omega|(simp only [List.length_append,List.length_cons,List.length_nil];omega)) only [go_sem,hf,hbig',hn0,hnk,←hF]
    refine (writeZ_ok (.inr hz3) old (by omega)).mono ?_
    rintro v σ5 ⟨rfl,hz5⟩
    simp (disch:=first|assumption|omega|(simp only [List.length_append,List.length_cons,List.length_nil];omega)) only [go_sem,hf,←hF]
    refine ⟨(tl,A++old,k+1),by dsimp only;omega,Dr.now ⟨by dsimp only;omega,?_,?_,?_,?_,.inr hz5⟩⟩
    ·dsimp only;rw [List.length_append];omega
    ·dsimp only;omega
    ·dsimp only;rw [List.append_assoc];exact hout
    ·simp [AFr.upd,hf]
/-! REPT. -/
def reptV (s:List UInt8) (n:Int):PV:=if n<0\/2000<n*s.length then .fail 3 else .text (Lib.repeatL s n.toNat)
theorem repeatL_len (s:List UInt8):∀ c,(Lib.repeatL s c).length=c*s.length
 | 0=>by simp [Lib.repeatL]
 | c+1=>by rw [Lib.repeatL,List.length_append,repeatL_len s c,Nat.succ_mul,Nat.add_comm]
theorem repeat_ok {σ:ASt} (s:List UInt8) (c:Nat) (hc:c<=2000000) (hl:s.length*c<=140737488355328):ACalls Tryz.prog 84 [.str s,.int .i64 c] σ fun v σ'=>v = .str (Lib.repeatL s c)/\σ'=σ:=by
 refine ACalls.of_below (u := .string ⟨(Lib.repeatL s c).toArray⟩) (fun w vs hsim ha=>?_) fun w => .str _
 cases ha with
 | cons h1 h2=>
 cases h2 with
 | cons h2 h3=>
 cases h3;cases h1;cases h2
 have e1:(⟨⟨s⟩⟩:ByteArray).size=s.length:=rfl
 exact Tryz.strings_Repeat ⟨⟨s⟩⟩ c w (by omega) (by rw [e1];exact hl)
theorem xrept_ok {σ:ASt} (s:List UInt8) (n:Int) (hs:s.length<=10000) (hn:n.natAbs<=2000000):ACalls Tryz.prog 56 [.str s,.int .i64 n] σ fun v σ'=>v=(reptV s n).av/\σ'=σ:=by
 unfold reptV
 refine a56 (by simp) ?_
 by_cases h0:n<0
 ·rw [if_pos (.inl h0)]
  simp only [PV.av]
  simp (disch:=first|assumption|omega|(simp only [List.length_append,List.length_cons,List.length_nil];omega)) only [go_sem,h0]
  exact retC_by (.refl _) (.refl _) ⟨rfl,rfl⟩
 obtain ⟨c,rfl⟩:∃ c:Nat,n=c:=⟨n.toNat,by omega⟩
 have ht:(2000:Int).tdiv c=((2000 / c:Nat):Int):=rfl
 have hm:(c:Int)*s.length=((c*s.length:Nat):Int):=by push_cast;rfl
 have hcl:s.length*c<=20000000000:=Nat.le_trans (Nat.mul_le_mul hs (show c<=2000000 by omega)) (by decide)
 rw [Int.toNat_natCast,hm]
 by_cases hc:c=0
 ·subst hc
  have hr:=repeat_ok (σ:=σ) s 0 (by omega) (by omega)
  rw [if_neg (by omega)]
  have hc':¬ (0:Int)<((0:Nat):Int):=by omega
  simp only [PV.av]
  generalize Lib.repeatL s 0=r at *
  simp (disch:=first|assumption|omega|(simp only [List.length_append,List.length_cons,List.length_nil];omega)) only [go_sem,h0,hc']
  refine hr.mono ?_
  rintro v σ' ⟨rfl,rfl⟩
  simp (disch:=first|assumption|omega|(simp only [List.length_append,List.length_cons,List.length_nil];omega)) only [go_sem]
  exact retC_by (.refl _) (.refl _) ⟨rfl,rfl⟩
 have hc':(0:Int)<c:=by omega
 have hc0:¬ (c:Int)=0:=by omega
 have hq:2000 / c<s.length↔2000<c*s.length:=by rw [Nat.div_lt_iff_lt_mul (by omega),Nat.mul_comm]
 have hle2:=Nat.div_le_self 2000 c
 obtain ⟨q,hqq⟩:∃ q,2000 / c=q:=⟨_,rfl⟩
 rw [hqq] at hq hle2 ht
 have hwq:IntKind.i64.wrap (q:Int)=q:=by rw [IntKind.wrap_i64];omega
 by_cases hb:2000<c*s.length
 ·rw [if_pos (.inr (by omega))]
  have hb':(q:Int)<s.length:=by have:=hq.2 hb;omega
  simp only [PV.av]
  simp (disch:=first|assumption|omega|(simp only [List.length_append,List.length_cons,List.length_nil];omega)) only [go_sem,h0,hc',hc0,ht,hwq,hb']
  exact retC_by (.refl _) (.refl _) ⟨rfl,rfl⟩
 ·rw [if_neg (by omega)]
  have hb':¬ (q:Int)<s.length:=by have:=mt hq.1 hb;omega
  have hr:=repeat_ok (σ:=σ) s c (by omega) (by omega)
  simp only [PV.av]
  generalize Lib.repeatL s c=r at *
  simp (disch:=first|assumption|omega|(simp only [List.length_append,List.length_cons,List.length_nil];omega)) only [go_sem,h0,hc',hc0,ht,hwq,hb']
  refine hr.mono ?_
  rintro v σ' ⟨rfl,rfl⟩
  simp (disch:=first|assumption|omega|(simp only [List.length_append,List.length_cons,List.length_nil];omega)) only [go_sem]
  exact retC_by (.refl _) (.refl _) ⟨rfl,rfl⟩
/-! VALUE. -/
theorem nes_VALUE:([86,65,76,85,69]:List UInt8) ≠ [76,69,78]/\([86,65,76,85,69]:List UInt8) ≠ [85,80,80,69,82]/\([86,65,76,85,69]:List UInt8) ≠ [76,79,87,69,82]/\([86,65,76,85,69]:List UInt8) ≠ [80,82,79,80,69,82]/\([86,65,76,85,69]:List UInt8) ≠ [84,82,73,77]/\([86,65,76,85,69]:List UInt8) ≠ [67,72,65,82]/\([86,65,76,85,69]:List UInt8) ≠ [67,79,68,69]/\([86,65,76,85,69]:List UInt8) ≠ [84]/\([86,65,76,85,69]:List UInt8) ≠ [82,69,86,69,82,83,69]/\([86,65,76,85,69]:List UInt8) ≠ [76,69,70,84]/\([86,65,76,85,69]:List UInt8) ≠ [82,73,71,72,84]/\([86,65,76,85,69]:List UInt8) ≠ [70,73,88,69,68]/\([86,65,76,85,69]:List UInt8) ≠ [82,69,80,84]/\([86,65,76,85,69]:List UInt8) ≠ [69,88,65,67,84]/\([86,65,76,85,69]:List UInt8) ≠ [70,73,78,68]/\([86,65,76,85,69]:List UInt8) ≠ [83,69,65,82,67,72]/\([86,65,76,85,69]:List UInt8) ≠ [77,73,68]/\([86,65,76,85,69]:List UInt8) ≠ [83,85,66,83,84,73,84,85,84,69]/\([86,65,76,85,69]:List UInt8) ≠ [82,69,80,76,65,67,69]/\([86,65,76,85,69]:List UInt8) ≠ [67,79,78,67,65,84]:=by decide
theorem nes_T:([84]:List UInt8) ≠ [76,69,78]/\([84]:List UInt8) ≠ [85,80,80,69,82]/\([84]:List UInt8) ≠ [76,79,87,69,82]/\([84]:List UInt8) ≠ [80,82,79,80,69,82]/\([84]:List UInt8) ≠ [84,82,73,77]/\([84]:List UInt8) ≠ [86,65,76,85,69]/\([84]:List UInt8) ≠ [67,72,65,82]/\([84]:List UInt8) ≠ [67,79,68,69]/\([84]:List UInt8) ≠ [82,69,86,69,82,83,69]/\([84]:List UInt8) ≠ [76,69,70,84]/\([84]:List UInt8) ≠ [82,73,71,72,84]/\([84]:List UInt8) ≠ [70,73,88,69,68]/\([84]:List UInt8) ≠ [82,69,80,84]/\([84]:List UInt8) ≠ [69,88,65,67,84]/\([84]:List UInt8) ≠ [70,73,78,68]/\([84]:List UInt8) ≠ [83,69,65,82,67,72]/\([84]:List UInt8) ≠ [77,73,68]/\([84]:List UInt8) ≠ [83,85,66,83,84,73,84,85,84,69]/\([84]:List UInt8) ≠ [82,69,80,76,65,67,69]/\([84]:List UInt8) ≠ [67,79,78,67,65,84]:=by decide
theorem nes_FIXED:([70,73,88,69,68]:List UInt8) ≠ [76,69,78]/\([70,73,88,69,68]:List UInt8) ≠ [85,80,80,69,82]/\([70,73,88,69,68]:List UInt8) ≠ [76,79,87,69,82]/\([70,73,88,69,68]:List UInt8) ≠ [80,82,79,80,69,82]/\([70,73,88,69,68]:List UInt8) ≠ [84,82,73,77]/\([70,73,88,69,68]:List UInt8) ≠ [86,65,76,85,69]/\([70,73,88,69,68]:List UInt8) ≠ [67,72,65,82]/\([70,73,88,69,68]:List UInt8) ≠ [67,79,68,69]/\([70,73,88,69,68]:List UInt8) ≠ [84]/\([70,73,88,69,68]:List UInt8) ≠ [82,69,86,69,82,83,69]/\([70,73,88,69,68]:List UInt8) ≠ [76,69,70,84]/\([70,73,88,69,68]:List UInt8) ≠ [82,73,71,72,84]/\([70,73,88,69,68]:List UInt8) ≠ [82,69,80,84]/\([70,73,88,69,68]:List UInt8) ≠ [69,88,65,67,84]/\([70,73,88,69,68]:List UInt8) ≠ [70,73,78,68]/\([70,73,88,69,68]:List UInt8) ≠ [83,69,65,82,67,72]/\([70,73,88,69,68]:List UInt8) ≠ [77,73,68]/\([70,73,88,69,68]:List UInt8) ≠ [83,85,66,83,84,73,84,85,84,69]/\([70,73,88,69,68]:List UInt8) ≠ [82,69,80,76,65,67,69]/\([70,73,88,69,68]:List UInt8) ≠ [67,79,78,67,65,84]:=by decide
theorem nes_REPT:([82,69,80,84]:List UInt8) ≠ [76,69,78]/\([82,69,80,84]:List UInt8) ≠ [85,80,80,69,82]/\([82,69,80,84]:List UInt8) ≠ [76,79,87,69,82]/\([82,69,80,84]:List UInt8) ≠ [80,82,79,80,69,82]/\([82,69,80,84]:List UInt8) ≠ [84,82,73,77]/\([82,69,80,84]:List UInt8) ≠ [86,65,76,85,69]/\([82,69,80,84]:List UInt8) ≠ [67,72,65,82]/\([82,69,80,84]:List UInt8) ≠ [67,79,68,69]/\([82,69,80,84]:List UInt8) ≠ [84]/\([82,69,80,84]:List UInt8) ≠ [82,69,86,69,82,83,69]/\([82,69,80,84]:List UInt8) ≠ [76,69,70,84]/\([82,69,80,84]:List UInt8) ≠ [82,73,71,72,84]/\([82,69,80,84]:List UInt8) ≠ [70,73,88,69,68]/\([82,69,80,84]:List UInt8) ≠ [69,88,65,67,84]/\([82,69,80,84]:List UInt8) ≠ [70,73,78,68]/\([82,69,80,84]:List UInt8) ≠ [83,69,65,82,67,72]/\([82,69,80,84]:List UInt8) ≠ [77,73,68]/\([82,69,80,84]:List UInt8) ≠ [83,85,66,83,84,73,84,85,84,69]/\([82,69,80,84]:List UInt8) ≠ [82,69,80,76,65,67,69]/\([82,69,80,84]:List UInt8) ≠ [67,79,78,67,65,84]:=by decide
theorem nes_EXACT:([69,88,65,67,84]:List UInt8) ≠ [76,69,78]/\([69,88,65,67,84]:List UInt8) ≠ [85,80,80,69,82]/\([69,88,65,67,84]:List UInt8) ≠ [76,79,87,69,82]/\([69,88,65,67,84]:List UInt8) ≠ [80,82,79,80,69,82]/\([69,88,65,67,84]:List UInt8) ≠ [84,82,73,77]/\([69,88,65,67,84]:List UInt8) ≠ [86,65,76,85,69]/\([69,88,65,67,84]:List UInt8) ≠ [67,72,65,82]/\([69,88,65,67,84]:List UInt8) ≠ [67,79,68,69]/\([69,88,65,67,84]:List UInt8) ≠ [84]/\([69,88,65,67,84]:List UInt8) ≠ [82,69,86,69,82,83,69]/\([69,88,65,67,84]:List UInt8) ≠ [76,69,70,84]/\([69,88,65,67,84]:List UInt8) ≠ [82,73,71,72,84]/\([69,88,65,67,84]:List UInt8) ≠ [70,73,88,69,68]/\([69,88,65,67,84]:List UInt8) ≠ [82,69,80,84]/\([69,88,65,67,84]:List UInt8) ≠ [70,73,78,68]/\([69,88,65,67,84]:List UInt8) ≠ [83,69,65,82,67,72]/\([69,88,65,67,84]:List UInt8) ≠ [77,73,68]/\([69,88,65,67,84]:List UInt8) ≠ [83,85,66,83,84,73,84,85,84,69]/\([69,88,65,67,84]:List UInt8) ≠ [82,69,80,76,65,67,69]/\([69,88,65,67,84]:List UInt8) ≠ [67,79,78,67,65,84]:=by decide
theorem nes_SEARCH:([83,69,65,82,67,72]:List UInt8) ≠ [76,69,78]/\([83,69,65,82,67,72]:List UInt8) ≠ [85,80,80,69,82]/\([83,69,65,82,67,72]:List UInt8) ≠ [76,79,87,69,82]/\([83,69,65,82,67,72]:List UInt8) ≠ [80,82,79,80,69,82]/\([83,69,65,82,67,72]:List UInt8) ≠ [84,82,73,77]/\([83,69,65,82,67,72]:List UInt8) ≠ [86,65,76,85,69]/\([83,69,65,82,67,72]:List UInt8) ≠ [67,72,65,82]/\([83,69,65,82,67,72]:List UInt8) ≠ [67,79,68,69]/\([83,69,65,82,67,72]:List UInt8) ≠ [84]/\([83,69,65,82,67,72]:List UInt8) ≠ [82,69,86,69,82,83,69]/\([83,69,65,82,67,72]:List UInt8) ≠ [76,69,70,84]/\([83,69,65,82,67,72]:List UInt8) ≠ [82,73,71,72,84]/\([83,69,65,82,67,72]:List UInt8) ≠ [70,73,88,69,68]/\([83,69,65,82,67,72]:List UInt8) ≠ [82,69,80,84]/\([83,69,65,82,67,72]:List UInt8) ≠ [69,88,65,67,84]/\([83,69,65,82,67,72]:List UInt8) ≠ [70,73,78,68]/\([83,69,65,82,67,72]:List UInt8) ≠ [77,73,68]/\([83,69,65,82,67,72]:List UInt8) ≠ [83,85,66,83,84,73,84,85,84,69]/\([83,69,65,82,67,72]:List UInt8) ≠ [82,69,80,76,65,67,69]/\([83,69,65,82,67,72]:List UInt8) ≠ [67,79,78,67,65,84]:=by decide
theorem nes_SUBSTITUTE:([83,85,66,83,84,73,84,85,84,69]:List UInt8) ≠ [76,69,78]/\([83,85,66,83,84,73,84,85,84,69]:List UInt8) ≠ [85,80,80,69,82]/\([83,85,66,83,84,73,84,85,84,69]:List UInt8) ≠ [76,79,87,69,82]/\([83,85,66,83,84,73,84,85,84,69]:List UInt8) ≠ [80,82,79,80,69,82]/\([83,85,66,83,84,73,84,85,84,69]:List UInt8) ≠ [84,82,73,77]/\([83,85,66,83,84,73,84,85,84,69]:List UInt8) ≠ [86,65,76,85,69]/\([83,85,66,83,84,73,84,85,84,69]:List UInt8) ≠ [67,72,65,82]/\([83,85,66,83,84,73,84,85,84,69]:List UInt8) ≠ [67,79,68,69]/\([83,85,66,83,84,73,84,85,84,69]:List UInt8) ≠ [84]/\([83,85,66,83,84,73,84,85,84,69]:List UInt8) ≠ [82,69,86,69,82,83,69]/\([83,85,66,83,84,73,84,85,84,69]:List UInt8) ≠ [76,69,70,84]/\([83,85,66,83,84,73,84,85,84,69]:List UInt8) ≠ [82,73,71,72,84]/\([83,85,66,83,84,73,84,85,84,69]:List UInt8) ≠ [70,73,88,69,68]/\([83,85,66,83,84,73,84,85,84,69]:List UInt8) ≠ [82,69,80,84]/\([83,85,66,83,84,73,84,85,84,69]:List UInt8) ≠ [69,88,65,67,84]/\([83,85,66,83,84,73,84,85,84,69]:List UInt8) ≠ [70,73,78,68]/\([83,85,66,83,84,73,84,85,84,69]:List UInt8) ≠ [83,69,65,82,67,72]/\([83,85,66,83,84,73,84,85,84,69]:List UInt8) ≠ [77,73,68]/\([83,85,66,83,84,73,84,85,84,69]:List UInt8) ≠ [82,69,80,76,65,67,69]/\([83,85,66,83,84,73,84,85,84,69]:List UInt8) ≠ [67,79,78,67,65,84]:=by decide
theorem nes_CONCAT:([67,79,78,67,65,84]:List UInt8) ≠ [76,69,78]/\([67,79,78,67,65,84]:List UInt8) ≠ [85,80,80,69,82]/\([67,79,78,67,65,84]:List UInt8) ≠ [76,79,87,69,82]/\([67,79,78,67,65,84]:List UInt8) ≠ [80,82,79,80,69,82]/\([67,79,78,67,65,84]:List UInt8) ≠ [84,82,73,77]/\([67,79,78,67,65,84]:List UInt8) ≠ [86,65,76,85,69]/\([67,79,78,67,65,84]:List UInt8) ≠ [67,72,65,82]/\([67,79,78,67,65,84]:List UInt8) ≠ [67,79,68,69]/\([67,79,78,67,65,84]:List UInt8) ≠ [84]/\([67,79,78,67,65,84]:List UInt8) ≠ [82,69,86,69,82,83,69]/\([67,79,78,67,65,84]:List UInt8) ≠ [76,69,70,84]/\([67,79,78,67,65,84]:List UInt8) ≠ [82,73,71,72,84]/\([67,79,78,67,65,84]:List UInt8) ≠ [70,73,88,69,68]/\([67,79,78,67,65,84]:List UInt8) ≠ [82,69,80,84]/\([67,79,78,67,65,84]:List UInt8) ≠ [69,88,65,67,84]/\([67,79,78,67,65,84]:List UInt8) ≠ [70,73,78,68]/\([67,79,78,67,65,84]:List UInt8) ≠ [83,69,65,82,67,72]/\([67,79,78,67,65,84]:List UInt8) ≠ [77,73,68]/\([67,79,78,67,65,84]:List UInt8) ≠ [83,85,66,83,84,73,84,85,84,69]/\([67,79,78,67,65,84]:List UInt8) ≠ [82,69,80,76,65,67,69]:=by decide
def valV (s:List UInt8):PV:=if (asNum (.text s)).2=0 then .num (asNum (.text s)).1 else .fail (asNum (.text s)).2
theorem xone_VALUE (s:List UInt8) (hs:s.length<=100000):Pure Tryz.prog 62 [.str nVALUE,.str s] (valV s).av:=by
 intro σ
 have h1:=asNumber_ok (.text s) hs
 unfold valV nVALUE
 simp only [PV.av] at h1
 generalize asNum (.text s)=W at *
 obtain ⟨n,f⟩:=W
 dsimp only at *
 refine a62 (by simp) ?_
 by_cases hf:f=0
 ·rw [if_pos hf]
  simp only [PV.av]
  simp (disch:=first|assumption|omega|(simp only [List.length_append,List.length_cons,List.length_nil];omega)) only [go_sem,nes_VALUE]
  refine h1.use ?_
  simp (disch:=first|assumption|omega|(simp only [List.length_append,List.length_cons,List.length_nil];omega)) only [go_sem,hf,nes_VALUE]
  exact retC_by (.refl _) (.refl _) ⟨rfl,rfl⟩
 ·rw [if_neg hf]
  simp only [PV.av]
  simp (disch:=first|assumption|omega|(simp only [List.length_append,List.length_cons,List.length_nil];omega)) only [go_sem,nes_VALUE]
  refine h1.use ?_
  simp (disch:=first|assumption|omega|(simp only [List.length_append,List.length_cons,List.length_nil];omega)) only [go_sem,hf,nes_VALUE]
  exact retC_by (.refl _) (.refl _) ⟨rfl,rfl⟩
/-! CONCAT. -/
theorem vjoin_text {σ:ASt} (hT:Tab σ) (s t:List UInt8) (hs:s.length<=1000000) (ht:t.length<=1000000):ACalls Tryz.prog 78 [(PV.text s).av,(PV.text t).av] σ fun v σ'=>v=(madeT (s++t)).av/\σ'=σ:=by
 have h1:=asText_ok hT (.text s) trivial
 have h2:=asText_ok hT (.text t) trivial
 have h3:=vmade_ok (s++t)
 have e5:binS .add s t=some (.str (s++t)):=binS_add (by omega)
 generalize (madeT (s++t)).av=W at *
 simp only [PV.av,asTextP] at h1 h2 ⊢
 generalize s++t=r at *
 refine a78 (by simp) ?_
 simp (disch:=first|assumption|omega|(simp only [List.length_append,List.length_cons,List.length_nil];omega)) only [go_sem]
 refine h1.mono ?_
 rintro v σ' ⟨rfl,rfl⟩
 simp (disch:=first|assumption|omega|(simp only [List.length_append,List.length_cons,List.length_nil];omega)) only [go_sem]
 refine h2.mono ?_
 rintro v σ' ⟨rfl,rfl⟩
 simp (disch:=first|assumption|omega|(simp only [List.length_append,List.length_cons,List.length_nil];omega)) only [go_sem,e5]
 refine h3.use ?_
 simp (disch:=first|assumption|omega|(simp only [List.length_append,List.length_cons,List.length_nil];omega)) only [go_sem]
 exact retC_by (.refl _) (.refl _) ⟨rfl,rfl⟩
end Go.A
namespace Go.A
open Go.Proofs
/-! 49: (*tabular/texts.reader).join -/
def c49_12:ACode := .seq (.ops [ oq 12 (.bin .lss (.t 11) (.t 10))]) (.seq (.cond (.t 12) .skip (.exit 0)) (.seq (.block 1 (.seq (.ops [ oq 13 (.mv (.t 11)),oq 4 (.mv (.t 13))]) (.ops [ oq 14 (.mv (.t 3)),oq 15 (.mv (.t 0)),oq 16 (.mv (.t 4)),oe 17 (.call 53 [(.t 15),(.t 16)]),oq 18 (.mki 89 (.t 17)),oe 19 (.call 78 [(.t 14),(.t 18)]),oq 3 (.mv (.t 19))]))) (.ops [ oq 20 (.bin .add (.t 11) (.v (.int .i64 1))),oq 11 (.mv (.t 20))])))
def c49_20:ACode := .seq (.ops [ oq 2 (.mv (.v .nili))]) (.seq (.ops [ oe 5 (.call 77 [(.v (.str []))]),oq 3 (.mv (.t 5))]) (.seq (.seq (.ops [ oq 6 (.mv (.t 0)),oq 7 (.nc (.t 6)),oq 8 (.fa 0 (.t 7)),oq 9 (.ld none (.t 8)),oq 10 (.len (.t 9)),oq 11 (.mv (.v (.int .i64 0)))]) (.block 0 (.loop c49_12))) (.seq (.ops [ oq 21 (.mv (.t 3)),oq 2 (.mv (.t 21))]) .ret)))
@[go_sem] def c49_12_wp:=wp_of c49_12.eq_1
@[go_sem] def c49_20_wp:=wp_of c49_20.eq_1
def c49:AFn:=⟨22,[.t 2],c49_20⟩
theorem c49_ok:compF Tryz.prog Tryz.f49=some c49:=by kernel_rfl
theorem a49 {args:List AV} {σ:ASt} {R:AV->ASt->Prop} (hl:args.length<=22) (h:c49_20.wp Tryz.prog (RetQ [.t 2] R) (init args) σ):ACalls Tryz.prog 49 args σ R:=acalls_of Tryz.func49 c49_ok hl h
/-! 51: tabular/texts.fixed -/
def c51_11:ACode := .seq (.ops [ oq 4 (.mv (.v .nili))]) (.seq (.ops [ oq 8 (.mv (.t 0)),oq 9 (.mv (.t 1)),oe 10 (.call 81 [(.t 8),(.t 9)]),oq 7 (.mv (.t 10)),oq 11 (.ext 0 (.t 7)),oq 12 (.ext 1 (.t 7)),oq 5 (.mv (.t 11)),oq 6 (.mv (.t 12))]) (.seq (.seq (.ops [ oq 13 (.mv (.t 6)),oq 14 (.un .not (.t 13))]) (.cond (.t 14) (.seq (.ops [ oq 15 (.mki 46 (.v (.int .i64 2))),oq 4 (.mv (.t 15))]) .ret) .skip)) (.seq (.ops [ oq 16 (.mv (.t 5)),oq 17 (.mki 89 (.t 16)),oq 4 (.mv (.t 17))]) .ret)))
@[go_sem] def c51_11_wp:=wp_of c51_11.eq_1
def c51:AFn:=⟨18,[.t 4],c51_11⟩
theorem c51_ok:compF Tryz.prog Tryz.f51=some c51:=by kernel_rfl
theorem a51 {args:List AV} {σ:ASt} {R:AV->ASt->Prop} (hl:args.length<=18) (h:c51_11.wp Tryz.prog (RetQ [.t 4] R) (init args) σ):ACalls Tryz.prog 51 args σ R:=acalls_of Tryz.func51 c51_ok hl h
/-! 52: tabular/value.IsText -/
def c52_5:ACode := .seq (.ops [ oq 2 (.mv (.v (.bool false)))]) (.seq (.ops [ oq 6 (.mv (.t 0)),oq 7 (.ta 89 (.str []) true (.t 6)),oq 5 (.mv (.t 7)),oq 8 (.ext 0 (.t 5)),oq 9 (.ext 1 (.t 5)),oq 3 (.mv (.t 8)),oq 4 (.mv (.t 9))]) (.seq (.ops [ oq 10 (.mv (.t 4)),oq 2 (.mv (.t 10))]) .ret))
@[go_sem] def c52_5_wp:=wp_of c52_5.eq_1
def c52:AFn:=⟨11,[.t 2],c52_5⟩
theorem c52_ok:compF Tryz.prog Tryz.f52=some c52:=by kernel_rfl
theorem a52 {args:List AV} {σ:ASt} {R:AV->ASt->Prop} (hl:args.length<=11) (h:c52_5.wp Tryz.prog (RetQ [.t 2] R) (init args) σ):ACalls Tryz.prog 52 args σ R:=acalls_of Tryz.func52 c52_ok hl h
end Go.A
namespace Go.A
open Go.Proofs Go.Lib
theorem txD_chars (n:Int):∀ c∈textD n,45<=c.toNat/\c.toNat<=57:=by
 intro c hc
 unfold textD at hc
 rcases List.mem_append.1 hc with h|h
 ·split at h
  ·simp at h;subst h;decide
  ·simp at h
 ·rcases List.mem_append.1 h with h|h
  ·have:=(dd_all _).1 c h;omega
  ·unfold placesP at h
   split at h
   ·simp at h
   ·rcases List.mem_cons.1 h with h|h
    ·subst h;decide
    ·unfold Lib.trimRightB at h
     rw [List.mem_reverse] at h
     have h2:=(List.dropWhile_sublist _).subset h
     rw [List.mem_reverse] at h2
     have:=(dd_all _).1 c (List.mem_of_mem_tail h2)
     omega
theorem txD_short {a:Int} (ha:a.natAbs<=999999999999999999):(textD a).length<=21:=by
 have h1:(Lib.decDigits (a.natAbs / 10000)).length<=15:=dd_len 14 _ (by omega)
 have h2:(placesP (a.natAbs % 10000)).length<=5:=by
  unfold placesP
  split
  ·simp
  ·rw [dd_four (by omega)]
   have:=congrArg List.length (trim_back 48 (fourP (a.natAbs % 10000)))
   rw [List.length_append] at this
   have e4:(fourP (a.natAbs % 10000)).length=4:=rfl
   simp
   omega
 unfold textD
 simp only [List.length_append]
 split<;>simp<;>omega
theorem whole_of {P:List (List UInt8)} (h:∀ p∈P,VP p):Whole P.flatten:=by
 intro p hp
 rw [pcs_of h] at hp
 exact h p hp
theorem whole_ascii {l:List UInt8} (h:∀ c∈l,c.toNat<128):Whole l:=by
 have e:(l.map fun c => [c]).flatten=l:=by
  induction l with
  | nil=>rfl
  | cons c l ih=>rw [List.map_cons,List.flatten_cons,ih fun d hd=>h d (List.mem_cons_of_mem _ hd)];rfl
 rw [<-e]
 refine whole_of fun p hp=>?_
 obtain ⟨c,hc,rfl⟩:=List.mem_map.1 hp
 exact (vp_ascii (h c hc)).1
def okA (L:List PV):Prop:=∀ v∈L,v.good/\v.small/\Whole (asTextP v).1/\(asTextP v).1.length<=60
theorem ofP_ok (p:Pl) (hp:p.s.length<=60):(ofP p).good/\(ofP p).small/\Whole (asTextP (ofP p)).1/\(asTextP (ofP p)).1.length<=60:=by
 refine ⟨?_,ofP_small p,?_⟩
 ·unfold ofP
  repeat' split
  all_goals first|trivial|assumption
 ·unfold ofP
  repeat' split
  all_goals simp only [asTextP]
  ·rename_i h
   refine ⟨whole_ascii fun c hc=>?_,?_⟩
   ·have:=txD_chars _ c hc;omega
   ·have:=txD_short h;omega
  ·exact ⟨whole_nil,by simp⟩
  ·rename_i h
   obtain ⟨m,hm⟩:=Option.isSome_iff_exists.1 h.1
   exact ⟨(sgT_whole _ m hm).1,hp⟩
  ·exact ⟨whole_nil,by simp⟩
  ·split
   ·exact ⟨whole_ascii (by decide),by decide⟩
   ·exact ⟨whole_ascii (by decide),by decide⟩
  ·exact ⟨whole_nil,by simp⟩
  ·exact ⟨whole_nil,by simp⟩
  ·exact ⟨whole_nil,by simp⟩
theorem argsP_ok (L:List Pl):okA (argsP L):=by
 intro v hv
 obtain ⟨p,_,rfl⟩:=List.mem_map.1 hv
 exact ofP_ok _ (by dsimp only;rw [List.length_take];omega)
def txtA (L:List PV) (i:Nat):List UInt8×Int:=match L[i]? with|some v=>asTextP v|none=>([],0)
def numA (L:List PV) (i:Nat) (o:Int):Int×Int:=match L[i]? with|some v=>(clampP (asIntV v).1,(asIntV v).2)|none=>(o,0)
theorem seen_b {f g:Int} (hf:0<=f/\f<=7) (hg:0<=g/\g<=7):0<=seen f g/\seen f g<=7:=by
 unfold seen
 split<;>omega
theorem seen_zero (f:Int):seen f 0=f:=by
 unfold seen
 split<;>omega
theorem asText_b {v:PV} (h:v.good):0<=(asTextP v).2/\(asTextP v).2<=7:=by
 cases v with
 | fail n=>obtain ⟨h1,h2⟩:1<=n/\n<=7:=h;exact ⟨by show 0<=n;omega,h2⟩
 | _=>exact ⟨by simp [asTextP],by simp [asTextP]⟩
theorem asNum_b {v:PV} (h:v.good):0<=(asNum v).2/\(asNum v).2<=7:=by
 cases v with
 | fail n=>obtain ⟨h1,h2⟩:1<=n/\n<=7:=h;exact ⟨by show 0<=n;omega,h2⟩
 | text s=>simp only [asNum];split<;>simp
 | _=>exact ⟨by simp [asNum],by simp [asNum]⟩
theorem txtA_b {L:List PV} (h:okA L) (i:Nat):0<=(txtA L i).2/\(txtA L i).2<=7:=by
 unfold txtA
 split
 ·rename_i v hv
  exact asText_b (h v (List.mem_of_getElem? hv)).1
 ·exact ⟨Int.le_refl 0,by decide⟩
theorem numA_b {L:List PV} (h:okA L) (i:Nat) (o:Int):0<=(numA L i o).2/\(numA L i o).2<=7:=by
 unfold numA
 split
 ·rename_i v hv
  exact asNum_b (h v (List.mem_of_getElem? hv)).1
 ·exact ⟨Int.le_refl 0,(show (0:Int)<=7 by decide)⟩
theorem txtA_w {L:List PV} (h:okA L) (i:Nat):Whole (txtA L i).1/\(txtA L i).1.length<=60:=by
 unfold txtA
 split
 ·rename_i v hv
  exact (h v (List.mem_of_getElem? hv)).2.2
 ·exact ⟨whole_nil,by simp⟩
theorem numA_r {L:List PV} (i:Nat) {o:Int} (ho:o.natAbs<=2):(numA L i o).1.natAbs<=2000000:=by
 unfold numA
 split
 ·unfold clampP;dsimp only;omega
 ·dsimp only;omega
theorem tab_set {τ:ASt} {b:Nat} {L:List PV} {f:Int} (hT:Tab τ) (hb:τ b=rdO L f) (r:Option Role):Tab (τ.set b r):=by
 unfold Tab at hT ⊢
 rw [ASt.set_ne]
 ·exact hT
 ·intro e;rw [<-e,hT] at hb;unfold rdO at hb;injection hb with hb;cases hb
theorem tens_set {τ:ASt} {b:Nat} {L:List PV} {f:Int} (hT:Tens τ) (hb:τ b=rdO L f) (r:Option Role):Tens (τ.set b r):=by
 unfold Tens at hT ⊢
 rw [ASt.set_ne]
 ·exact hT
 ·intro e;rw [<-e,hT] at hb;unfold rdO at hb;injection hb with hb;cases hb
theorem maxl_set {τ:ASt} {b:Nat} {L:List PV} {f:Int} (hM:MaxL τ) (hb:τ b=rdO L f) (r:Option Role):MaxL (τ.set b r):=by
 obtain ⟨m,hm⟩:=hM
 refine ⟨m,?_⟩
 rw [ASt.set_ne]
 ·exact hm
 ·intro e;rw [<-e,hm] at hb;unfold rdO at hb;injection hb with hb;cases hb
theorem rdt {τ:ASt} {b:Nat} {L:List PV} {f:Int} (hT:Tab τ) (hb:τ b=rdO L f) (i:Nat) (hi:i<L.length) (hL:okA L) :
  ACalls Tryz.prog 53 [.ptr b 0,.int .i64 i] τ fun r σ'=>r = .str (txtA L i).1/\σ'=τ.set b (rdO L (seen f (txtA L i).2)):=by
 have hx : L[i]? = some (L[i]'hi) := List.getElem?_eq_getElem hi
 have h:=xrtext_ok hT hb i hx (hL _ (List.getElem_mem hi)).1
 unfold txtA
 rw [hx]
 exact h
theorem rdn {τ:ASt} {b:Nat} {L:List PV} {f:Int} (hb:τ b=rdO L f) (i:Nat) (o:Int) (hL:okA L) :
  ACalls Tryz.prog 48 [.ptr b 0,.int .i64 i,.int .i64 o] τ fun r σ'=>r = .int .i64 (numA L i o).1/\σ'=τ.set b (rdO L (seen f (numA L i o).2)):=by
 unfold numA
 by_cases hi:i<L.length
 ·have hx : L[i]? = some (L[i]'hi) := List.getElem?_eq_getElem hi
  have hg:=hL _ (List.getElem_mem hi)
  have h:=xrint_ok hb i o hx hg.1 hg.2.1
  rw [hx]
  exact h
 ·rw [List.getElem?_eq_none (by omega)]
  dsimp only
  rw [seen_zero,xset_self hb]
  exact xrint_none hb i o (by omega)
def substL (L:List PV):PV:=if 3<L.length/\(numA L 3 0).1<1 then .fail 3 else substV (txtA L 0).1 (txtA L 1).1 (txtA L 2).1 (numA L 3 0).1
set_option maxHeartbeats 1000000 in
theorem pk_LEN {τ:ASt} {b:Nat} {L:List PV} (hT:Tab τ) (hM:MaxL τ) (hL:okA L) (hl:1<=L.length) (hb:τ b=rdO L 0) :
  ACalls Tryz.prog 18 [.ptr b 0,.str nLEN] τ fun r σ'=>r=(cntP (intP (pcs (txtA L 0).1).length)).av/\σ'=τ.set b (rdO L (seen 0 (txtA L 0).2)):=by
 have h0:=rdt (τ:=τ) hT hb 0 (by omega) hL
 rw [show ((0:Nat):Int)=0 from rfl] at h0
 obtain ⟨hw0,hl0⟩:=txtA_w hL 0
 have hX:=xone_LEN (txtA L 0).1 (by omega)
 generalize (cntP (intP (pcs (txtA L 0).1).length)).av=W at *
 unfold nLEN at *
 refine a18 (by simp) ?_
 simp (disch:=first|assumption|omega|(simp only [List.length_append,List.length_cons,List.length_nil];omega)) only [go_sem,nes_LEN]
 refine h0.mono ?_
 rintro r σ' ⟨rfl,rfl⟩
 simp (disch:=first|assumption|omega|(simp only [List.length_append,List.length_cons,List.length_nil];omega)) only [go_sem,ASt.set_set,nes_LEN]
 refine hX.use ?_
 simp (disch:=first|assumption|omega|(simp only [List.length_append,List.length_cons,List.length_nil];omega)) only [go_sem,ASt.set_set,nes_LEN]
 exact retC_by (.refl _) (.refl _) ⟨rfl,rfl⟩
set_option maxHeartbeats 1000000 in
theorem pk_UPPER {τ:ASt} {b:Nat} {L:List PV} (hT:Tab τ) (hM:MaxL τ) (hL:okA L) (hl:1<=L.length) (hb:τ b=rdO L 0) :
  ACalls Tryz.prog 18 [.ptr b 0,.str nUPPER] τ fun r σ'=>r=(PV.text (greatP (txtA L 0).1)).av/\σ'=τ.set b (rdO L (seen 0 (txtA L 0).2)):=by
 have h0:=rdt (τ:=τ) hT hb 0 (by omega) hL
 rw [show ((0:Nat):Int)=0 from rfl] at h0
 obtain ⟨hw0,hl0⟩:=txtA_w hL 0
 have hX:=xone_UPPER (txtA L 0).1 (by omega)
 generalize (PV.text (greatP (txtA L 0).1)).av=W at *
 unfold nUPPER at *
 refine a18 (by simp) ?_
 simp (disch:=first|assumption|omega|(simp only [List.length_append,List.length_cons,List.length_nil];omega)) only [go_sem,nes_UPPER]
 refine h0.mono ?_
 rintro r σ' ⟨rfl,rfl⟩
 simp (disch:=first|assumption|omega|(simp only [List.length_append,List.length_cons,List.length_nil];omega)) only [go_sem,ASt.set_set,nes_UPPER]
 refine hX.use ?_
 simp (disch:=first|assumption|omega|(simp only [List.length_append,List.length_cons,List.length_nil];omega)) only [go_sem,ASt.set_set,nes_UPPER]
 exact retC_by (.refl _) (.refl _) ⟨rfl,rfl⟩
set_option maxHeartbeats 1000000 in
theorem pk_LOWER {τ:ASt} {b:Nat} {L:List PV} (hT:Tab τ) (hM:MaxL τ) (hL:okA L) (hl:1<=L.length) (hb:τ b=rdO L 0) :
  ACalls Tryz.prog 18 [.ptr b 0,.str nLOWER] τ fun r σ'=>r=(PV.text (smallP (txtA L 0).1)).av/\σ'=τ.set b (rdO L (seen 0 (txtA L 0).2)):=by
 have h0:=rdt (τ:=τ) hT hb 0 (by omega) hL
 rw [show ((0:Nat):Int)=0 from rfl] at h0
 obtain ⟨hw0,hl0⟩:=txtA_w hL 0
 have hX:=xone_LOWER (txtA L 0).1 (by omega)
 generalize (PV.text (smallP (txtA L 0).1)).av=W at *
 unfold nLOWER at *
 refine a18 (by simp) ?_
 simp (disch:=first|assumption|omega|(simp only [List.length_append,List.length_cons,List.length_nil];omega)) only [go_sem,nes_LOWER]
 refine h0.mono ?_
 rintro r σ' ⟨rfl,rfl⟩
 simp (disch:=first|assumption|omega|(simp only [List.length_append,List.length_cons,List.length_nil];omega)) only [go_sem,ASt.set_set,nes_LOWER]
 refine hX.use ?_
 simp (disch:=first|assumption|omega|(simp only [List.length_append,List.length_cons,List.length_nil];omega)) only [go_sem,ASt.set_set,nes_LOWER]
 exact retC_by (.refl _) (.refl _) ⟨rfl,rfl⟩
set_option maxHeartbeats 1000000 in
theorem pk_PROPER {τ:ASt} {b:Nat} {L:List PV} (hT:Tab τ) (hM:MaxL τ) (hL:okA L) (hl:1<=L.length) (hb:τ b=rdO L 0) :
  ACalls Tryz.prog 18 [.ptr b 0,.str nPROPER] τ fun r σ'=>r=(PV.text (propP (txtA L 0).1)).av/\σ'=τ.set b (rdO L (seen 0 (txtA L 0).2)):=by
 have h0:=rdt (τ:=τ) hT hb 0 (by omega) hL
 rw [show ((0:Nat):Int)=0 from rfl] at h0
 obtain ⟨hw0,hl0⟩:=txtA_w hL 0
 have hX:=xone_PROPER (txtA L 0).1 (by omega)
 generalize (PV.text (propP (txtA L 0).1)).av=W at *
 unfold nPROPER at *
 refine a18 (by simp) ?_
 simp (disch:=first|assumption|omega|(simp only [List.length_append,List.length_cons,List.length_nil];omega)) only [go_sem,nes_PROPER]
 refine h0.mono ?_
 rintro r σ' ⟨rfl,rfl⟩
 simp (disch:=first|assumption|omega|(simp only [List.length_append,List.length_cons,List.length_nil];omega)) only [go_sem,ASt.set_set,nes_PROPER]
 refine hX.use ?_
 simp (disch:=first|assumption|omega|(simp only [List.length_append,List.length_cons,List.length_nil];omega)) only [go_sem,ASt.set_set,nes_PROPER]
 exact retC_by (.refl _) (.refl _) ⟨rfl,rfl⟩
set_option maxHeartbeats 1000000 in
theorem pk_TRIM {τ:ASt} {b:Nat} {L:List PV} (hT:Tab τ) (hM:MaxL τ) (hL:okA L) (hl:1<=L.length) (hb:τ b=rdO L 0) :
  ACalls Tryz.prog 18 [.ptr b 0,.str nTRIM] τ fun r σ'=>r=(PV.text (trimT (txtA L 0).1)).av/\σ'=τ.set b (rdO L (seen 0 (txtA L 0).2)):=by
 have h0:=rdt (τ:=τ) hT hb 0 (by omega) hL
 rw [show ((0:Nat):Int)=0 from rfl] at h0
 obtain ⟨hw0,hl0⟩:=txtA_w hL 0
 have hX:=xone_TRIM (maxl_set hM hb (rdO L (seen 0 (txtA L 0).2))) (txtA L 0).1 (by omega)
 generalize (PV.text (trimT (txtA L 0).1)).av=W at *
 unfold nTRIM at *
 refine a18 (by simp) ?_
 simp (disch:=first|assumption|omega|(simp only [List.length_append,List.length_cons,List.length_nil];omega)) only [go_sem,nes_TRIM]
 refine h0.mono ?_
 rintro r σ' ⟨rfl,rfl⟩
 simp (disch:=first|assumption|omega|(simp only [List.length_append,List.length_cons,List.length_nil];omega)) only [go_sem,ASt.set_set,nes_TRIM]
 refine hX.mono ?_
 rintro r σ' ⟨rfl,rfl⟩
 simp (disch:=first|assumption|omega|(simp only [List.length_append,List.length_cons,List.length_nil];omega)) only [go_sem,ASt.set_set,nes_TRIM]
 exact retC_by (.refl _) (.refl _) ⟨rfl,rfl⟩
set_option maxHeartbeats 1000000 in
theorem pk_REVERSE {τ:ASt} {b:Nat} {L:List PV} (hT:Tab τ) (hM:MaxL τ) (hL:okA L) (hl:1<=L.length) (hb:τ b=rdO L 0) :
  ACalls Tryz.prog 18 [.ptr b 0,.str nREVERSE] τ fun r σ'=>r=(PV.text (revP (txtA L 0).1)).av/\σ'=τ.set b (rdO L (seen 0 (txtA L 0).2)):=by
 have h0:=rdt (τ:=τ) hT hb 0 (by omega) hL
 rw [show ((0:Nat):Int)=0 from rfl] at h0
 obtain ⟨hw0,hl0⟩:=txtA_w hL 0
 have hX:=xone_REVERSE (txtA L 0).1 (by omega)
 generalize (PV.text (revP (txtA L 0).1)).av=W at *
 unfold nREVERSE at *
 refine a18 (by simp) ?_
 simp (disch:=first|assumption|omega|(simp only [List.length_append,List.length_cons,List.length_nil];omega)) only [go_sem,nes_REVERSE]
 refine h0.mono ?_
 rintro r σ' ⟨rfl,rfl⟩
 simp (disch:=first|assumption|omega|(simp only [List.length_append,List.length_cons,List.length_nil];omega)) only [go_sem,ASt.set_set,nes_REVERSE]
 refine hX.use ?_
 simp (disch:=first|assumption|omega|(simp only [List.length_append,List.length_cons,List.length_nil];omega)) only [go_sem,ASt.set_set,nes_REVERSE]
 exact retC_by (.refl _) (.refl _) ⟨rfl,rfl⟩
set_option maxHeartbeats 1000000 in
theorem pk_CODE {τ:ASt} {b:Nat} {L:List PV} (hT:Tab τ) (hM:MaxL τ) (hL:okA L) (hl:1<=L.length) (hb:τ b=rdO L 0) :
  ACalls Tryz.prog 18 [.ptr b 0,.str nCODE] τ fun r σ'=>r=(codeV (txtA L 0).1).av/\σ'=τ.set b (rdO L (seen 0 (txtA L 0).2)):=by
 have h0:=rdt (τ:=τ) hT hb 0 (by omega) hL
 rw [show ((0:Nat):Int)=0 from rfl] at h0
 obtain ⟨hw0,hl0⟩:=txtA_w hL 0
 have hX:=xone_CODE (txtA L 0).1 (by omega)
 generalize (codeV (txtA L 0).1).av=W at *
 unfold nCODE at *
 refine a18 (by simp) ?_
 simp (disch:=first|assumption|omega|(simp only [List.length_append,List.length_cons,List.length_nil];omega)) only [go_sem,nes_CODE]
 refine h0.mono ?_
 rintro r σ' ⟨rfl,rfl⟩
 simp (disch:=first|assumption|omega|(simp only [List.length_append,List.length_cons,List.length_nil];omega)) only [go_sem,ASt.set_set,nes_CODE]
 refine hX.use ?_
 simp (disch:=first|assumption|omega|(simp only [List.length_append,List.length_cons,List.length_nil];omega)) only [go_sem,ASt.set_set,nes_CODE]
 exact retC_by (.refl _) (.refl _) ⟨rfl,rfl⟩
set_option maxHeartbeats 1000000 in
theorem pk_VALUE {τ:ASt} {b:Nat} {L:List PV} (hT:Tab τ) (hM:MaxL τ) (hL:okA L) (hl:1<=L.length) (hb:τ b=rdO L 0) :
  ACalls Tryz.prog 18 [.ptr b 0,.str nVALUE] τ fun r σ'=>r=(valV (txtA L 0).1).av/\σ'=τ.set b (rdO L (seen 0 (txtA L 0).2)):=by
 have h0:=rdt (τ:=τ) hT hb 0 (by omega) hL
 rw [show ((0:Nat):Int)=0 from rfl] at h0
 obtain ⟨hw0,hl0⟩:=txtA_w hL 0
 have hX:=xone_VALUE (txtA L 0).1 (by omega)
 generalize (valV (txtA L 0).1).av=W at *
 unfold nVALUE at *
 refine a18 (by simp) ?_
 simp (disch:=first|assumption|omega|(simp only [List.length_append,List.length_cons,List.length_nil];omega)) only [go_sem,nes_VALUE]
 refine h0.mono ?_
 rintro r σ' ⟨rfl,rfl⟩
 simp (disch:=first|assumption|omega|(simp only [List.length_append,List.length_cons,List.length_nil];omega)) only [go_sem,ASt.set_set,nes_VALUE]
 refine hX.use ?_
 simp (disch:=first|assumption|omega|(simp only [List.length_append,List.length_cons,List.length_nil];omega)) only [go_sem,ASt.set_set,nes_VALUE]
 exact retC_by (.refl _) (.refl _) ⟨rfl,rfl⟩
set_option maxHeartbeats 1000000 in
theorem pk_CHAR {τ:ASt} {b:Nat} {L:List PV} (hT:Tab τ) (hM:MaxL τ) (hL:okA L) (hl:1<=L.length) (hb:τ b=rdO L 0) :
  ACalls Tryz.prog 18 [.ptr b 0,.str nCHAR] τ fun r σ'=>r=(signV (numA L 0 0).1).av/\σ'=τ.set b (rdO L (seen 0 (numA L 0 0).2)):=by
 have h0:=rdn (τ:=τ) hb 0 0 hL
 rw [show ((0:Nat):Int)=0 from rfl] at h0
 have hX:=xsign_ok (numA L 0 0).1
 generalize (signV (numA L 0 0).1).av=W at *
 unfold nCHAR at *
 refine a18 (by simp) ?_
 simp (disch:=first|assumption|omega|(simp only [List.length_append,List.length_cons,List.length_nil];omega)) only [go_sem,nes_CHAR]
 refine h0.mono ?_
 rintro r σ' ⟨rfl,rfl⟩
 simp (disch:=first|assumption|omega|(simp only [List.length_append,List.length_cons,List.length_nil];omega)) only [go_sem,ASt.set_set,nes_CHAR]
 refine hX.use ?_
 simp (disch:=first|assumption|omega|(simp only [List.length_append,List.length_cons,List.length_nil];omega)) only [go_sem,ASt.set_set,nes_CHAR]
 exact retC_by (.refl _) (.refl _) ⟨rfl,rfl⟩
set_option maxHeartbeats 1000000 in
theorem pk_LEFT {τ:ASt} {b:Nat} {L:List PV} (hT:Tab τ) (hM:MaxL τ) (hL:okA L) (hl:1<=L.length) (hb:τ b=rdO L 0) :
  ACalls Tryz.prog 18 [.ptr b 0,.str nLEFT] τ fun r σ'=>r=(sidesP nLEFT (txtA L 0).1 (numA L 1 1).1).av/\σ'=τ.set b (rdO L (seen (seen 0 (txtA L 0).2) (numA L 1 1).2)):=by
 have h0:=rdt (τ:=τ) hT hb 0 (by omega) hL
 rw [show ((0:Nat):Int)=0 from rfl] at h0
 have h1:=rdn (τ:=(τ.set b (rdO L (seen 0 (txtA L 0).2)))) (ASt.set_same _ _ _) 1 1 hL
 rw [show ((1:Nat):Int)=1 from rfl] at h1
 obtain ⟨hw0,hl0⟩:=txtA_w hL 0
 have hr1:=numA_r (L:=L) 1 (o:=1) (by decide)
 have hX:=xsides_ok nLEFT (txtA L 0).1 (numA L 1 1).1 (by omega) (by omega)
 generalize (sidesP nLEFT (txtA L 0).1 (numA L 1 1).1).av=W at *
 unfold nLEFT at *
 refine a18 (by simp) ?_
 simp (disch:=first|assumption|omega|(simp only [List.length_append,List.length_cons,List.length_nil];omega)) only [go_sem,nes_LEFT]
 refine h0.mono ?_
 rintro r σ' ⟨rfl,rfl⟩
 simp (disch:=first|assumption|omega|(simp only [List.length_append,List.length_cons,List.length_nil];omega)) only [go_sem,ASt.set_set,nes_LEFT]
 refine h1.mono ?_
 rintro r σ' ⟨rfl,rfl⟩
 simp (disch:=first|assumption|omega|(simp only [List.length_append,List.length_cons,List.length_nil];omega)) only [go_sem,ASt.set_set,nes_LEFT]
 refine hX.use ?_
 simp (disch:=first|assumption|omega|(simp only [List.length_append,List.length_cons,List.length_nil];omega)) only [go_sem,ASt.set_set,nes_LEFT]
 exact retC_by (.refl _) (.refl _) ⟨rfl,rfl⟩
set_option maxHeartbeats 1000000 in
theorem pk_RIGHT {τ:ASt} {b:Nat} {L:List PV} (hT:Tab τ) (hM:MaxL τ) (hL:okA L) (hl:1<=L.length) (hb:τ b=rdO L 0) :
  ACalls Tryz.prog 18 [.ptr b 0,.str nRIGHT] τ fun r σ'=>r=(sidesP nRIGHT (txtA L 0).1 (numA L 1 1).1).av/\σ'=τ.set b (rdO L (seen (seen 0 (txtA L 0).2) (numA L 1 1).2)):=by
 have h0:=rdt (τ:=τ) hT hb 0 (by omega) hL
 rw [show ((0:Nat):Int)=0 from rfl] at h0
 have h1:=rdn (τ:=(τ.set b (rdO L (seen 0 (txtA L 0).2)))) (ASt.set_same _ _ _) 1 1 hL
 rw [show ((1:Nat):Int)=1 from rfl] at h1
 obtain ⟨hw0,hl0⟩:=txtA_w hL 0
 have hr1:=numA_r (L:=L) 1 (o:=1) (by decide)
 have hX:=xsides_ok nRIGHT (txtA L 0).1 (numA L 1 1).1 (by omega) (by omega)
 generalize (sidesP nRIGHT (txtA L 0).1 (numA L 1 1).1).av=W at *
 unfold nRIGHT at *
 refine a18 (by simp) ?_
 simp (disch:=first|assumption|omega|(simp only [List.length_append,List.length_cons,List.length_nil];omega)) only [go_sem,nes_RIGHT]
 refine h0.mono ?_
 rintro r σ' ⟨rfl,rfl⟩
 simp (disch:=first|assumption|omega|(simp only [List.length_append,List.length_cons,List.length_nil];omega)) only [go_sem,ASt.set_set,nes_RIGHT]
 refine h1.mono ?_
 rintro r σ' ⟨rfl,rfl⟩
 simp (disch:=first|assumption|omega|(simp only [List.length_append,List.length_cons,List.length_nil];omega)) only [go_sem,ASt.set_set,nes_RIGHT]
 refine hX.use ?_
 simp (disch:=first|assumption|omega|(simp only [List.length_append,List.length_cons,List.length_nil];omega)) only [go_sem,ASt.set_set,nes_RIGHT]
 exact retC_by (.refl _) (.refl _) ⟨rfl,rfl⟩
set_option maxHeartbeats 1000000 in
theorem pk_MID {τ:ASt} {b:Nat} {L:List PV} (hT:Tab τ) (hM:MaxL τ) (hL:okA L) (hl:3<=L.length) (hb:τ b=rdO L 0) :
  ACalls Tryz.prog 18 [.ptr b 0,.str nMID] τ fun r σ'=>r=(midP (txtA L 0).1 (numA L 1 1).1 (numA L 2 1).1).av/\σ'=τ.set b (rdO L (seen (seen (seen 0 (txtA L 0).2) (numA L 1 1).2) (numA L 2 1).2)):=by
 have h0:=rdt (τ:=τ) hT hb 0 (by omega) hL
 rw [show ((0:Nat):Int)=0 from rfl] at h0
 have h1:=rdn (τ:=(τ.set b (rdO L (seen 0 (txtA L 0).2)))) (ASt.set_same _ _ _) 1 1 hL
 rw [show ((1:Nat):Int)=1 from rfl] at h1
 have h2:=rdn (τ:=(τ.set b (rdO L (seen (seen 0 (txtA L 0).2) (numA L 1 1).2)))) (ASt.set_same _ _ _) 2 1 hL
 rw [show ((2:Nat):Int)=2 from rfl] at h2
 obtain ⟨hw0,hl0⟩:=txtA_w hL 0
 have hr1:=numA_r (L:=L) 1 (o:=1) (by decide)
 have hX:=xpart_ok (txtA L 0).1 ((numA L 1 1).1-1) (numA L 2 1).1 (by omega)
 obtain ⟨R,hR⟩:∃ R,midP (txtA L 0).1 (numA L 1 1).1 (numA L 2 1).1=R:=⟨_,rfl⟩
 rw [hR]
 unfold midP at hR
 generalize (numA L 1 1).1=A at *
 generalize (numA L 2 1).1=B at *
 unfold nMID at *
 refine a18 (by simp) ?_
 simp (disch:=first|assumption|omega|(simp only [List.length_append,List.length_cons,List.length_nil];omega)) only [go_sem,nes_MID]
 refine h0.mono ?_
 rintro r σ' ⟨rfl,rfl⟩
 simp (disch:=first|assumption|omega|(simp only [List.length_append,List.length_cons,List.length_nil];omega)) only [go_sem,ASt.set_set,nes_MID]
 refine h1.mono ?_
 rintro r σ' ⟨rfl,rfl⟩
 simp (disch:=first|assumption|omega|(simp only [List.length_append,List.length_cons,List.length_nil];omega)) only [go_sem,ASt.set_set,nes_MID]
 refine h2.mono ?_
 rintro r σ' ⟨rfl,rfl⟩
 by_cases c1:A<1
 ·rw [if_pos (.inl c1)] at hR
  subst hR
  simp only [PV.av]
  simp (disch:=first|assumption|omega|(simp only [List.length_append,List.length_cons,List.length_nil];omega)) only [go_sem,c1,ASt.set_set,nes_MID]
  exact retC_by (.refl _) (.refl _) ⟨rfl,rfl⟩
 by_cases c2:B<0
 ·rw [if_pos (.inr c2)] at hR
  subst hR
  simp only [PV.av]
  simp (disch:=first|assumption|omega|(simp only [List.length_append,List.length_cons,List.length_nil];omega)) only [go_sem,c1,c2,ASt.set_set,nes_MID]
  exact retC_by (.refl _) (.refl _) ⟨rfl,rfl⟩
 rw [if_neg (by omega)] at hR
 subst hR
 simp only [PV.av]
 simp (disch:=first|assumption|omega|(simp only [List.length_append,List.length_cons,List.length_nil];omega)) only [go_sem,c1,c2,ASt.set_set,nes_MID]
 refine hX.use ?_
 simp (disch:=first|assumption|omega|(simp only [List.length_append,List.length_cons,List.length_nil];omega)) only [go_sem,ASt.set_set,nes_MID]
 exact retC_by (.refl _) (.refl _) ⟨rfl,rfl⟩
set_option maxHeartbeats 1000000 in
theorem pk_REPT {τ:ASt} {b:Nat} {L:List PV} (hT:Tab τ) (hM:MaxL τ) (hL:okA L) (hl:2<=L.length) (hb:τ b=rdO L 0) :
  ACalls Tryz.prog 18 [.ptr b 0,.str nREPT] τ fun r σ'=>r=(reptV (txtA L 0).1 (numA L 1 1).1).av/\σ'=τ.set b (rdO L (seen (seen 0 (txtA L 0).2) (numA L 1 1).2)):=by
 have h0:=rdt (τ:=τ) hT hb 0 (by omega) hL
 rw [show ((0:Nat):Int)=0 from rfl] at h0
 have h1:=rdn (τ:=(τ.set b (rdO L (seen 0 (txtA L 0).2)))) (ASt.set_same _ _ _) 1 1 hL
 rw [show ((1:Nat):Int)=1 from rfl] at h1
 obtain ⟨hw0,hl0⟩:=txtA_w hL 0
 have hr1:=numA_r (L:=L) 1 (o:=1) (by decide)
 have hX:=xrept_ok (σ:=(τ.set b (rdO L (seen (seen 0 (txtA L 0).2) (numA L 1 1).2)))) (txtA L 0).1 (numA L 1 1).1 (by omega) hr1
 generalize (reptV (txtA L 0).1 (numA L 1 1).1).av=W at *
 unfold nREPT at *
 refine a18 (by simp) ?_
 simp (disch:=first|assumption|omega|(simp only [List.length_append,List.length_cons,List.length_nil];omega)) only [go_sem,nes_REPT]
 refine h0.mono ?_
 rintro r σ' ⟨rfl,rfl⟩
 simp (disch:=first|assumption|omega|(simp only [List.length_append,List.length_cons,List.length_nil];omega)) only [go_sem,ASt.set_set,nes_REPT]
 refine h1.mono ?_
 rintro r σ' ⟨rfl,rfl⟩
 simp (disch:=first|assumption|omega|(simp only [List.length_append,List.length_cons,List.length_nil];omega)) only [go_sem,ASt.set_set,nes_REPT]
 refine hX.mono ?_
 rintro r σ' ⟨rfl,rfl⟩
 simp (disch:=first|assumption|omega|(simp only [List.length_append,List.length_cons,List.length_nil];omega)) only [go_sem,ASt.set_set,nes_REPT]
 exact retC_by (.refl _) (.refl _) ⟨rfl,rfl⟩
set_option maxHeartbeats 1000000 in
theorem pk_EXACT {τ:ASt} {b:Nat} {L:List PV} (hT:Tab τ) (hM:MaxL τ) (hL:okA L) (hl:2<=L.length) (hb:τ b=rdO L 0) :
  ACalls Tryz.prog 18 [.ptr b 0,.str nEXACT] τ fun r σ'=>r=(PV.bool (decide ((txtA L 0).1=(txtA L 1).1))).av/\σ'=τ.set b (rdO L (seen (seen 0 (txtA L 0).2) (txtA L 1).2)):=by
 have h0:=rdt (τ:=τ) hT hb 0 (by omega) hL
 rw [show ((0:Nat):Int)=0 from rfl] at h0
 have h1:=rdt (τ:=(τ.set b (rdO L (seen 0 (txtA L 0).2)))) (tab_set hT hb _) (ASt.set_same _ _ _) 1 (by omega) hL
 rw [show ((1:Nat):Int)=1 from rfl] at h1
 obtain ⟨hw0,hl0⟩:=txtA_w hL 0
 generalize (txtA L 0).1=s at *
 generalize (txtA L 1).1=t at *
 unfold nEXACT at *
 simp only [PV.av]
 refine a18 (by simp) ?_
 simp (disch:=first|assumption|omega|(simp only [List.length_append,List.length_cons,List.length_nil];omega)) only [go_sem,nes_EXACT]
 refine h0.mono ?_
 rintro r σ' ⟨rfl,rfl⟩
 simp (disch:=first|assumption|omega|(simp only [List.length_append,List.length_cons,List.length_nil];omega)) only [go_sem,ASt.set_set,nes_EXACT]
 refine h1.mono ?_
 rintro r σ' ⟨rfl,rfl⟩
 simp (disch:=first|assumption|omega|(simp only [List.length_append,List.length_cons,List.length_nil];omega)) only [go_sem,ASt.set_set,nes_EXACT]
 exact retC_by (.refl _) (.refl _) ⟨rfl,rfl⟩
set_option maxHeartbeats 1000000 in
theorem pk_FIND {τ:ASt} {b:Nat} {L:List PV} (hT:Tab τ) (hM:MaxL τ) (hL:okA L) (hl:2<=L.length) (hb:τ b=rdO L 0) :
  ACalls Tryz.prog 18 [.ptr b 0,.str nFIND] τ fun r σ'=>r=(findP (txtA L 0).1 (txtA L 1).1 (numA L 2 1).1).av/\σ'=τ.set b (rdO L (seen (seen (seen 0 (txtA L 0).2) (txtA L 1).2) (numA L 2 1).2)):=by
 have h0:=rdt (τ:=τ) hT hb 0 (by omega) hL
 rw [show ((0:Nat):Int)=0 from rfl] at h0
 have h1:=rdt (τ:=(τ.set b (rdO L (seen 0 (txtA L 0).2)))) (tab_set hT hb _) (ASt.set_same _ _ _) 1 (by omega) hL
 rw [show ((1:Nat):Int)=1 from rfl] at h1
 have h2:=rdn (τ:=(τ.set b (rdO L (seen (seen 0 (txtA L 0).2) (txtA L 1).2)))) (ASt.set_same _ _ _) 2 1 hL
 rw [show ((2:Nat):Int)=2 from rfl] at h2
 obtain ⟨hw0,hl0⟩:=txtA_w hL 0
 obtain ⟨hw1,hl1⟩:=txtA_w hL 1
 have hr1:=numA_r (L:=L) 2 (o:=1) (by decide)
 have hX:=xfind_ok (maxl_set hM hb (rdO L (seen (seen (seen 0 (txtA L 0).2) (txtA L 1).2) (numA L 2 1).2))) (txtA L 0).1 (txtA L 1).1 (numA L 2 1).1 hr1 (by omega)
 generalize (findP (txtA L 0).1 (txtA L 1).1 (numA L 2 1).1).av=W at *
 unfold nFIND at *
 refine a18 (by simp) ?_
 simp (disch:=first|assumption|omega|(simp only [List.length_append,List.length_cons,List.length_nil];omega)) only [go_sem,nes_FIND]
 refine h0.mono ?_
 rintro r σ' ⟨rfl,rfl⟩
 simp (disch:=first|assumption|omega|(simp only [List.length_append,List.length_cons,List.length_nil];omega)) only [go_sem,ASt.set_set,nes_FIND]
 refine h1.mono ?_
 rintro r σ' ⟨rfl,rfl⟩
 simp (disch:=first|assumption|omega|(simp only [List.length_append,List.length_cons,List.length_nil];omega)) only [go_sem,ASt.set_set,nes_FIND]
 refine h2.mono ?_
 rintro r σ' ⟨rfl,rfl⟩
 simp (disch:=first|assumption|omega|(simp only [List.length_append,List.length_cons,List.length_nil];omega)) only [go_sem,ASt.set_set,nes_FIND]
 refine hX.mono ?_
 rintro r σ' ⟨rfl,rfl⟩
 simp (disch:=first|assumption|omega|(simp only [List.length_append,List.length_cons,List.length_nil];omega)) only [go_sem,ASt.set_set,nes_FIND]
 exact retC_by (.refl _) (.refl _) ⟨rfl,rfl⟩
set_option maxHeartbeats 1000000 in
theorem pk_SEARCH {τ:ASt} {b:Nat} {L:List PV} (hT:Tab τ) (hM:MaxL τ) (hL:okA L) (hl:2<=L.length) (hb:τ b=rdO L 0) :
  ACalls Tryz.prog 18 [.ptr b 0,.str nSEARCH] τ fun r σ'=>r=(findP (greatP (txtA L 0).1) (greatP (txtA L 1).1) (numA L 2 1).1).av/\σ'=τ.set b (rdO L (seen (seen (seen 0 (txtA L 0).2) (txtA L 1).2) (numA L 2 1).2)):=by
 have h0:=rdt (τ:=τ) hT hb 0 (by omega) hL
 rw [show ((0:Nat):Int)=0 from rfl] at h0
 have h1:=rdt (τ:=(τ.set b (rdO L (seen 0 (txtA L 0).2)))) (tab_set hT hb _) (ASt.set_same _ _ _) 1 (by omega) hL
 rw [show ((1:Nat):Int)=1 from rfl] at h1
 have h2:=rdn (τ:=(τ.set b (rdO L (seen (seen 0 (txtA L 0).2) (txtA L 1).2)))) (ASt.set_same _ _ _) 2 1 hL
 rw [show ((2:Nat):Int)=2 from rfl] at h2
 obtain ⟨hw0,hl0⟩:=txtA_w hL 0
 obtain ⟨hw1,hl1⟩:=txtA_w hL 1
 have hr1:=numA_r (L:=L) 2 (o:=1) (by decide)
 have hg0:=vgreat_ok (txtA L 0).1 (by omega)
 have hg1:=vgreat_ok (txtA L 1).1 (by omega)
 have hX:=xfind_ok (maxl_set hM hb (rdO L (seen (seen (seen 0 (txtA L 0).2) (txtA L 1).2) (numA L 2 1).2))) (greatP (txtA L 0).1) (greatP (txtA L 1).1) (numA L 2 1).1 hr1 (by rw [greatP_len];omega)
 generalize (findP (greatP (txtA L 0).1) (greatP (txtA L 1).1) (numA L 2 1).1).av=W at *
 unfold nSEARCH at *
 refine a18 (by simp) ?_
 simp (disch:=first|assumption|omega|(simp only [List.length_append,List.length_cons,List.length_nil];omega)) only [go_sem,nes_SEARCH]
 refine h0.mono ?_
 rintro r σ' ⟨rfl,rfl⟩
 simp (disch:=first|assumption|omega|(simp only [List.length_append,List.length_cons,List.length_nil];omega)) only [go_sem,nes_SEARCH]
 refine hg0.use ?_
 simp (disch:=first|assumption|omega|(simp only [List.length_append,List.length_cons,List.length_nil];omega)) only [go_sem,nes_SEARCH]
 refine h1.mono ?_
 rintro r σ' ⟨rfl,rfl⟩
 simp (disch:=first|assumption|omega|(simp only [List.length_append,List.length_cons,List.length_nil];omega)) only [go_sem,ASt.set_set,nes_SEARCH]
 refine hg1.use ?_
 simp (disch:=first|assumption|omega|(simp only [List.length_append,List.length_cons,List.length_nil];omega)) only [go_sem,ASt.set_set,nes_SEARCH]
 refine h2.mono ?_
 rintro r σ' ⟨rfl,rfl⟩
 simp (disch:=first|assumption|omega|(simp only [List.length_append,List.length_cons,List.length_nil];omega)) only [go_sem,ASt.set_set,nes_SEARCH]
 refine hX.mono ?_
 rintro r σ' ⟨rfl,rfl⟩
 simp (disch:=first|assumption|omega|(simp only [List.length_append,List.length_cons,List.length_nil];omega)) only [go_sem,ASt.set_set,nes_SEARCH]
 exact retC_by (.refl _) (.refl _) ⟨rfl,rfl⟩
set_option maxHeartbeats 1000000 in
theorem pk_SUBSTITUTE {τ:ASt} {b:Nat} {L:List PV} (hT:Tab τ) (hM:MaxL τ) (hL:okA L) (hl:3<=L.length) (hb:τ b=rdO L 0) :
  ACalls Tryz.prog 18 [.ptr b 0,.str nSUBSTITUTE] τ fun r σ'=>r=(substL L).av/\σ'=τ.set b (rdO L (seen (seen (seen (seen 0 (txtA L 0).2) (txtA L 1).2) (txtA L 2).2) (numA L 3 0).2)):=by
 have h0:=rdt (τ:=τ) hT hb 0 (by omega) hL
 rw [show ((0:Nat):Int)=0 from rfl] at h0
 have h1:=rdt (τ:=(τ.set b (rdO L (seen 0 (txtA L 0).2)))) (tab_set hT hb _) (ASt.set_same _ _ _) 1 (by omega) hL
 rw [show ((1:Nat):Int)=1 from rfl] at h1
 have h2:=rdt (τ:=(τ.set b (rdO L (seen (seen 0 (txtA L 0).2) (txtA L 1).2)))) (tab_set hT hb _) (ASt.set_same _ _ _) 2 (by omega) hL
 rw [show ((2:Nat):Int)=2 from rfl] at h2
 have h3:=rdn (τ:=(τ.set b (rdO L (seen (seen (seen 0 (txtA L 0).2) (txtA L 1).2) (txtA L 2).2)))) (ASt.set_same _ _ _) 3 0 hL
 rw [show ((3:Nat):Int)=3 from rfl] at h3
 obtain ⟨hw0,hl0⟩:=txtA_w hL 0
 obtain ⟨hw1,hl1⟩:=txtA_w hL 1
 obtain ⟨hw2,hl2⟩:=txtA_w hL 2
 have hh:=xrhas_ok (σ:=(τ.set b (rdO L (seen (seen (seen (seen 0 (txtA L 0).2) (txtA L 1).2) (txtA L 2).2) (numA L 3 0).2)))) (ASt.set_same _ _ _) 3
 rw [show ((3:Nat):Int)=3 from rfl] at hh
 have hX:=xsubst_ok (maxl_set hM hb (rdO L (seen (seen (seen (seen 0 (txtA L 0).2) (txtA L 1).2) (txtA L 2).2) (numA L 3 0).2))) (txtA L 0).1 (txtA L 1).1 (txtA L 2).1 (numA L 3 0).1 (by omega) (by omega) (by omega)
 unfold substL
 generalize substV (txtA L 0).1 (txtA L 1).1 (txtA L 2).1 (numA L 3 0).1=R at *
 generalize (numA L 3 0).1=B at *
 unfold nSUBSTITUTE at *
 refine a18 (by simp) ?_
 simp (disch:=first|assumption|omega|(simp only [List.length_append,List.length_cons,List.length_nil];omega)) only [go_sem,nes_SUBSTITUTE]
 refine h0.mono ?_
 rintro r σ' ⟨rfl,rfl⟩
 simp (disch:=first|assumption|omega|(simp only [List.length_append,List.length_cons,List.length_nil];omega)) only [go_sem,ASt.set_set,nes_SUBSTITUTE]
 refine h1.mono ?_
 rintro r σ' ⟨rfl,rfl⟩
 simp (disch:=first|assumption|omega|(simp only [List.length_append,List.length_cons,List.length_nil];omega)) only [go_sem,ASt.set_set,nes_SUBSTITUTE]
 refine h2.mono ?_
 rintro r σ' ⟨rfl,rfl⟩
 simp (disch:=first|assumption|omega|(simp only [List.length_append,List.length_cons,List.length_nil];omega)) only [go_sem,ASt.set_set,nes_SUBSTITUTE]
 refine h3.mono ?_
 rintro r σ' ⟨rfl,rfl⟩
 by_cases c1:3<L.length
 ·rw [decide_eq_true c1] at hh
  by_cases c2:B<1
  ·rw [if_pos ⟨c1,c2⟩]
   simp only [PV.av]
   simp (disch:=first|assumption|omega|(simp only [List.length_append,List.length_cons,List.length_nil];omega)) only [go_sem,ASt.set_set,nes_SUBSTITUTE]
   refine hh.mono ?_
   rintro r σ' ⟨rfl,rfl⟩
   simp (disch:=first|assumption|omega|(simp only [List.length_append,List.length_cons,List.length_nil];omega)) only [go_sem,c2,ASt.set_set,nes_SUBSTITUTE]
   exact retC_by (.refl _) (.refl _) ⟨rfl,rfl⟩
  ·rw [if_neg (fun h=>c2 h.2)]
   generalize R.av=W at *
   simp (disch:=first|assumption|omega|(simp only [List.length_append,List.length_cons,List.length_nil];omega)) only [go_sem,ASt.set_set,nes_SUBSTITUTE]
   refine hh.mono ?_
   rintro r σ' ⟨rfl,rfl⟩
   simp (disch:=first|assumption|omega|(simp only [List.length_append,List.length_cons,List.length_nil];omega)) only [go_sem,c2,ASt.set_set,nes_SUBSTITUTE]
   refine hX.mono ?_
   rintro r σ' ⟨rfl,rfl⟩
   simp (disch:=first|assumption|omega|(simp only [List.length_append,List.length_cons,List.length_nil];omega)) only [go_sem,ASt.set_set,nes_SUBSTITUTE]
   exact retC_by (.refl _) (.refl _) ⟨rfl,rfl⟩
 ·rw [decide_eq_false c1] at hh
  rw [if_neg (fun h=>c1 h.1)]
  generalize R.av=W at *
  simp (disch:=first|assumption|omega|(simp only [List.length_append,List.length_cons,List.length_nil];omega)) only [go_sem,ASt.set_set,nes_SUBSTITUTE]
  refine hh.mono ?_
  rintro r σ' ⟨rfl,rfl⟩
  simp (disch:=first|assumption|omega|(simp only [List.length_append,List.length_cons,List.length_nil];omega)) only [go_sem,ASt.set_set,nes_SUBSTITUTE]
  refine hX.mono ?_
  rintro r σ' ⟨rfl,rfl⟩
  simp (disch:=first|assumption|omega|(simp only [List.length_append,List.length_cons,List.length_nil];omega)) only [go_sem,ASt.set_set,nes_SUBSTITUTE]
  exact retC_by (.refl _) (.refl _) ⟨rfl,rfl⟩
set_option maxHeartbeats 1000000 in
theorem pk_REPLACE {τ:ASt} {b:Nat} {L:List PV} (hT:Tab τ) (hM:MaxL τ) (hL:okA L) (hl:4<=L.length) (hb:τ b=rdO L 0) :
  ACalls Tryz.prog 18 [.ptr b 0,.str nREPLACE] τ fun r σ'=>r=(replP (txtA L 0).1 (numA L 1 1).1 (numA L 2 1).1 (txtA L 3).1).av/\σ'=τ.set b (rdO L (seen (seen (seen (seen 0 (txtA L 0).2) (numA L 1 1).2) (numA L 2 1).2) (txtA L 3).2)):=by
 have h0:=rdt (τ:=τ) hT hb 0 (by omega) hL
 rw [show ((0:Nat):Int)=0 from rfl] at h0
 have h1:=rdn (τ:=(τ.set b (rdO L (seen 0 (txtA L 0).2)))) (ASt.set_same _ _ _) 1 1 hL
 rw [show ((1:Nat):Int)=1 from rfl] at h1
 have h2:=rdn (τ:=(τ.set b (rdO L (seen (seen 0 (txtA L 0).2) (numA L 1 1).2)))) (ASt.set_same _ _ _) 2 1 hL
 rw [show ((2:Nat):Int)=2 from rfl] at h2
 have h3:=rdt (τ:=(τ.set b (rdO L (seen (seen (seen 0 (txtA L 0).2) (numA L 1 1).2) (numA L 2 1).2)))) (tab_set hT hb _) (ASt.set_same _ _ _) 3 (by omega) hL
 rw [show ((3:Nat):Int)=3 from rfl] at h3
 obtain ⟨hw0,hl0⟩:=txtA_w hL 0
 obtain ⟨hw3,hl3⟩:=txtA_w hL 3
 have hr1:=numA_r (L:=L) 1 (o:=1) (by decide)
 have hX:=xrepl_ok (txtA L 0).1 (numA L 1 1).1 (numA L 2 1).1 (txtA L 3).1 (by omega) (by omega) (by omega)
 generalize (replP (txtA L 0).1 (numA L 1 1).1 (numA L 2 1).1 (txtA L 3).1).av=W at *
 unfold nREPLACE at *
 refine a18 (by simp) ?_
 simp (disch:=first|assumption|omega|(simp only [List.length_append,List.length_cons,List.length_nil];omega)) only [go_sem,nes_REPLACE]
 refine h0.mono ?_
 rintro r σ' ⟨rfl,rfl⟩
 simp (disch:=first|assumption|omega|(simp only [List.length_append,List.length_cons,List.length_nil];omega)) only [go_sem,ASt.set_set,nes_REPLACE]
 refine h1.mono ?_
 rintro r σ' ⟨rfl,rfl⟩
 simp (disch:=first|assumption|omega|(simp only [List.length_append,List.length_cons,List.length_nil];omega)) only [go_sem,ASt.set_set,nes_REPLACE]
 refine h2.mono ?_
 rintro r σ' ⟨rfl,rfl⟩
 simp (disch:=first|assumption|omega|(simp only [List.length_append,List.length_cons,List.length_nil];omega)) only [go_sem,ASt.set_set,nes_REPLACE]
 refine h3.mono ?_
 rintro r σ' ⟨rfl,rfl⟩
 simp (disch:=first|assumption|omega|(simp only [List.length_append,List.length_cons,List.length_nil];omega)) only [go_sem,ASt.set_set,nes_REPLACE]
 refine hX.use ?_
 simp (disch:=first|assumption|omega|(simp only [List.length_append,List.length_cons,List.length_nil];omega)) only [go_sem,ASt.set_set,nes_REPLACE]
 exact retC_by (.refl _) (.refl _) ⟨rfl,rfl⟩
/-! T,FIXED,CONCAT. -/
def tV (L:List PV):PV:=match L[0]? with
 | some (PV.text s)=>PV.text s
 | some (PV.fail n)=>PV.fail n
 | _=>PV.text []
theorem istext_ok (v:PV):Pure Tryz.prog 52 [v.av] (.bool (match v with | .text _=>true|_=>false)):=by
 intro σ
 cases v<;>(refine a52 (by simp) ?_;simp only [PV.av];simp (disch:=first|assumption|omega|(simp only [List.length_append,List.length_cons,List.length_nil];omega)) only [go_sem];exact retC_by (.refl _) (.refl _) ⟨rfl,rfl⟩)
set_option maxHeartbeats 1000000 in
theorem pk_T {τ:ASt} {b:Nat} {L:List PV} (hl:1<=L.length) (hb:τ b=rdO L 0) :
  ACalls Tryz.prog 18 [.ptr b 0,.str nT] τ fun r σ'=>r=(tV L).av/\σ'=τ.set b (rdO L 0):=by
 obtain ⟨v,hv⟩:∃ v,L[0]? = some v:=⟨_,List.getElem?_eq_getElem (by omega)⟩
 have h1:=argval_ok v
 have h2:=failed_ok v
 have h3:=istext_ok v
 have h4:=xarg_get hv
 have hav:=PV.av_cells v
 have han:=PV.av_any v
 unfold tV
 rw [hv]
 rw [xset_self hb]
 unfold argAV at h1
 unfold rdO at hb
 generalize hLA:L.map argAV=LA at *
 unfold nT
 refine a18 (by simp) ?_
 cases v with
 | text s=>
   simp only [PV.av,failedP] at *
   simp (disch:=first|assumption|omega|(simp only [List.length_append,List.length_cons,List.length_nil];omega)) only [go_sem,hb,h4,hav,han,nes_T]
   refine h1.use ?_
   simp (disch:=first|assumption|omega|(simp only [List.length_append,List.length_cons,List.length_nil];omega)) only [go_sem,nes_T]
   refine h2.use ?_
   simp (disch:=first|assumption|omega|(simp only [List.length_append,List.length_cons,List.length_nil];omega)) only [go_sem,nes_T]
   refine h3.use ?_
   simp (disch:=first|assumption|omega|(simp only [List.length_append,List.length_cons,List.length_nil];omega)) only [go_sem,nes_T]
   exact retC_by (.refl _) (.refl _) ⟨rfl,rfl⟩
 | fail n=>
   simp only [PV.av,failedP] at *
   simp (disch:=first|assumption|omega|(simp only [List.length_append,List.length_cons,List.length_nil];omega)) only [go_sem,hb,h4,hav,han,nes_T]
   refine h1.use ?_
   simp (disch:=first|assumption|omega|(simp only [List.length_append,List.length_cons,List.length_nil];omega)) only [go_sem,nes_T]
   refine h2.use ?_
   simp (disch:=first|assumption|omega|(simp only [List.length_append,List.length_cons,List.length_nil];omega)) only [go_sem,nes_T]
   exact retC_by (.refl _) (.refl _) ⟨rfl,rfl⟩
 | _=>
   simp only [PV.av,failedP] at *
   simp (disch:=first|assumption|omega|(simp only [List.length_append,List.length_cons,List.length_nil];omega)) only [go_sem,hb,h4,hav,han,nes_T]
   refine h1.use ?_
   simp (disch:=first|assumption|omega|(simp only [List.length_append,List.length_cons,List.length_nil];omega)) only [go_sem,nes_T]
   refine h2.use ?_
   simp (disch:=first|assumption|omega|(simp only [List.length_append,List.length_cons,List.length_nil];omega)) only [go_sem,nes_T]
   refine h3.use ?_
   simp (disch:=first|assumption|omega|(simp only [List.length_append,List.length_cons,List.length_nil];omega)) only [go_sem,nes_T]
   exact retC_by (.refl _) (.refl _) ⟨rfl,rfl⟩
def fixV (s:List UInt8) (ok:Bool):PV:=if ok=true then .text s else .fail 2
theorem xfixed_ok {σ:ASt} {a p:Int} {s:List UInt8} {ok:Bool} (h:ACalls Tryz.prog 81 [.int .i64 a,.int .i64 p] σ (fun v σ'=>v = .tuple [.str s,.bool ok]/\σ'=σ)) :
  ACalls Tryz.prog 51 [.int .i64 a,.int .i64 p] σ fun v σ'=>v=(fixV s ok).av/\σ'=σ:=by
 refine a51 (by simp) ?_
 unfold fixV
 cases ok with
 | true=>
   rw [if_pos rfl]
   simp only [PV.av]
   simp (disch:=first|assumption|omega|(simp only [List.length_append,List.length_cons,List.length_nil];omega)) only [go_sem]
   refine h.mono ?_
   rintro v σ' ⟨rfl,rfl⟩
   simp (disch:=first|assumption|omega|(simp only [List.length_append,List.length_cons,List.length_nil];omega)) only [go_sem]
   exact retC_by (.refl _) (.refl _) ⟨rfl,rfl⟩
 | false=>
   rw [if_neg (by decide)]
   simp only [PV.av]
   simp (disch:=first|assumption|omega|(simp only [List.length_append,List.length_cons,List.length_nil];omega)) only [go_sem]
   refine h.mono ?_
   rintro v σ' ⟨rfl,rfl⟩
   simp (disch:=first|assumption|omega|(simp only [List.length_append,List.length_cons,List.length_nil];omega)) only [go_sem]
   exact retC_by (.refl _) (.refl _) ⟨rfl,rfl⟩
def frstA (L:List PV):Int×Int:=match L[0]? with|some v=>asNum v|none=>(0,0)
set_option maxHeartbeats 1000000 in
theorem pk_FIXED {τ:ASt} {b:Nat} {L:List PV} (hL:okA L) (hl:1<=L.length) (hb:τ b=rdO L 0) {s:List UInt8} {ok:Bool}
  (h:ACalls Tryz.prog 81 [.int .i64 (frstA L).1,.int .i64 (numA L 1 2).1] (τ.set b (rdO L (seen (frstA L).2 (numA L 1 2).2))) (fun v σ'=>v = .tuple [.str s,.bool ok]/\σ'=τ.set b (rdO L (seen (frstA L).2 (numA L 1 2).2)))) :
  ACalls Tryz.prog 18 [.ptr b 0,.str nFIXED] τ fun r σ'=>r=(fixV s ok).av/\σ'=τ.set b (rdO L (seen (frstA L).2 (numA L 1 2).2)):=by
 obtain ⟨v,hv⟩:∃ v,L[0]? = some v:=⟨_,List.getElem?_eq_getElem (by omega)⟩
 have hg:=hL v (List.mem_of_getElem? hv)
 have h1:=argval_ok v
 have h2:=asNumber_ok v hg.2.1
 have h4:=xarg_get hv
 have hav:=PV.av_cells v
 have han:=PV.av_any v
 have hX:=xfixed_ok h
 have h5:=rdn (τ:=τ.set b (rdO L (frstA L).2)) (ASt.set_same _ _ _) 1 2 hL
 rw [show ((1:Nat):Int)=1 from rfl] at h5
 have e:frstA L=asNum v:=by unfold frstA;rw [hv]
 clear h
 rw [e] at h5 hX ⊢
 generalize (fixV s ok).av=W at *
 unfold argAV at h1
 unfold rdO at hb h5 hX ⊢
 generalize hLA:L.map argAV=LA at *
 generalize asNum v=w at *
 generalize v.av=x at *
 unfold nFIXED
 refine a18 (by simp) ?_
 simp (disch:=first|assumption|omega|(simp only [List.length_append,List.length_cons,List.length_nil];omega)) only [go_sem,hb,h4,hav,han,nes_FIXED]
 refine h1.use ?_
 simp (disch:=first|assumption|omega|(simp only [List.length_append,List.length_cons,List.length_nil];omega)) only [go_sem,nes_FIXED]
 refine h2.use ?_
 simp (disch:=first|assumption|omega|(simp only [List.length_append,List.length_cons,List.length_nil];omega)) only [go_sem,hb,nes_FIXED]
 refine h5.mono ?_
 rintro r σ' ⟨rfl,rfl⟩
 simp (disch:=first|assumption|omega|(simp only [List.length_append,List.length_cons,List.length_nil];omega)) only [go_sem,ASt.set_set,nes_FIXED]
 refine hX.mono ?_
 rintro r σ' ⟨rfl,rfl⟩
 simp (disch:=first|assumption|omega|(simp only [List.length_append,List.length_cons,List.length_nil];omega)) only [go_sem,ASt.set_set,nes_FIXED]
 exact retC_by (.refl _) (.refl _) ⟨rfl,rfl⟩
def catP (L:List PV):List UInt8:=(L.map fun v=>(asTextP v).1).flatten
def catF (L:List PV):Int:=L.foldl (fun f v=>seen f (asTextP v).2) 0
theorem cat_step {L:List PV} {i:Nat} {v:PV} (h:L[i]? = some v):catP (L.take (i+1))=catP (L.take i)++(asTextP v).1/\catF (L.take (i+1))=seen (catF (L.take i)) (asTextP v).2:=by
 have e:L.take (i+1)=L.take i ++ [v]:=by rw [List.take_add_one,h];rfl
 rw [e]
 exact ⟨by simp [catP],by simp [catF]⟩
theorem catP_len {L:List PV} (hL:okA L):∀ i,(catP (L.take i)).length<=60*i
 | 0=>by simp [catP]
 | i+1=>by
   have ih:=catP_len hL i
   cases h:L[i]? with
   | none=>
     rw [List.getElem?_eq_none_iff] at h
     rw [List.take_of_length_le (by omega)] at ih
     rw [List.take_of_length_le (by omega)]
     omega
   | some v=>
     have:=(hL v (List.mem_of_getElem? h)).2.2.2
     rw [(cat_step h).1,List.length_append]
     omega
theorem catF_b {L:List PV} (hL:okA L):∀ i,0<=catF (L.take i)/\catF (L.take i)<=7
 | 0=>⟨Int.le_refl 0,(show (0:Int)<=7 by decide)⟩
 | i+1=>by
   have ih:=catF_b hL i
   cases h:L[i]? with
   | none=>
     rw [List.getElem?_eq_none_iff] at h
     rw [List.take_of_length_le (by omega)] at ih
     rw [List.take_of_length_le (by omega)]
     exact ih
   | some v=>
     rw [(cat_step h).2]
     exact seen_b ih (asText_b (hL v (List.mem_of_getElem? h)).1)
theorem madeT_short {s:List UInt8} (h:s.length<=2000):madeT s = .text s:=by unfold madeT;rw [if_neg (by omega)]
set_option maxHeartbeats 1000000 in
theorem xrjoin_ok {τ:ASt} {b:Nat} {L:List PV} (hT:Tab τ) (hL:okA L) (hl:L.length<=30) (hb:τ b=rdO L 0) :
  ACalls Tryz.prog 49 [.ptr b 0] τ fun r σ'=>r=(PV.text (catP L)).av/\σ'=τ.set b (rdO L (catF L)):=by
 have hm:=vmade_ok []
 rw [madeT_short (by simp)] at hm
 have hlm:(L.map argAV).length=L.length:=List.length_map _
 simp only [PV.av] at hm
 have hb':=hb
 unfold rdO at hb'
 refine a49 (by simp) ?_
 simp (disch:=first|assumption|omega|(simp only [List.length_append,List.length_cons,List.length_nil];omega)) only [go_sem]
 refine hm.use ?_
 simp (disch:=first|assumption|omega|(simp only [List.length_append,List.length_cons,List.length_nil];omega)) only [go_sem,hb',hlm]
 refine wp_loop_on (fun (i:Nat) a σ'=>i<=L.length/\(a 0 = .ptr b 0/\a 3=(PV.text (catP (L.take i))).av/\a 10 = .int .i64 L.length/\a 11 = .int .i64 i)/\σ'=τ.set b (rdO L (catF (L.take i)))) (fun i=>L.length-i) 0 ⟨Nat.zero_le _,?_,?_⟩ ?_
 ·simp only [PV.av]
  simp (disch:=first|assumption|omega|(simp only [List.length_append,List.length_cons,List.length_nil];omega)) only [go_sem]
  rfl
 ·rw [show catF (L.take 0)=0 from rfl,xset_self hb]
 rintro i a σ1 ⟨hi,hf,rfl⟩
 by_cases hlt:i<L.length
 ·have hlt':(i:Int)<L.length:=by omega
  obtain ⟨v,hv⟩:∃ v,L[i]? = some v:=⟨_,List.getElem?_eq_getElem hlt⟩
  obtain ⟨hc1,hc2⟩:=cat_step hv
  have hcl:=catP_len hL i
  have hcl2:=catP_len hL (i+1)
  have h1:=rdt (τ:=τ.set b (rdO L (catF (L.take i)))) (tab_set hT hb _) (ASt.set_same _ _ _) i hlt hL
  have htx:txtA L i=asTextP v:=by unfold txtA;rw [hv]
  rw [htx,← hc2] at h1
  have hvl:=(hL v (List.mem_of_getElem? hv)).2.2.2
  have h2:=vjoin_text (σ:=τ.set b (rdO L (catF (L.take (i+1))))) (tab_set hT hb _) (catP (L.take i)) (asTextP v).1 (by omega) (by omega)
  rw [<-hc1,madeT_short (by omega)] at h2
  obtain ⟨A,hA⟩:∃ A,catF (L.take (i+1))=A:=⟨_,rfl⟩
  obtain ⟨B,hB⟩:∃ B,catP (L.take (i+1))=B:=⟨_,rfl⟩
  rw [hA] at h1 h2
  rw [hB] at h2
  simp only [PV.av] at hf h2
  generalize (asTextP v).1=t at *
  generalize catP (L.take i)=C at *
  simp (disch:=first|assumption|omega|(simp only [List.length_append,List.length_cons,List.length_nil];omega)) only [go_sem,hf,hlt']
  refine h1.mono ?_
  rintro r σ' ⟨rfl,rfl⟩
  simp (disch:=first|assumption|omega|(simp only [List.length_append,List.length_cons,List.length_nil];omega)) only [go_sem,hf,ASt.set_set]
  refine h2.mono ?_
  rintro r σ' ⟨rfl,rfl⟩
  simp (disch:=first|assumption|omega|(simp only [List.length_append,List.length_cons,List.length_nil];omega)) only [go_sem,hf,ASt.set_set]
  refine ⟨i+1,by omega,by omega,?_,by rw [hA]⟩
  exact ⟨by rw [hB];rfl,rfl⟩
 ·have hlt':¬ (i:Int)<L.length:=by omega
  rw [List.take_of_length_le (by omega)] at hf ⊢
  generalize (PV.text (catP L)).av=W at *
  simp (disch:=first|assumption|omega|(simp only [List.length_append,List.length_cons,List.length_nil];omega)) only [go_sem,hf,hlt']
  exact retC_by (.refl _) (.refl _) ⟨rfl,rfl⟩
theorem pk_CONCAT {τ:ASt} {b:Nat} {L:List PV} (hT:Tab τ) (hL:okA L) (hl:L.length<=30) (hb:τ b=rdO L 0) :
  ACalls Tryz.prog 18 [.ptr b 0,.str nCONCAT] τ fun r σ'=>r=(PV.text (catP L)).av/\σ'=τ.set b (rdO L (catF L)):=by
 have h1:=xrjoin_ok hT hL hl hb
 generalize (PV.text (catP L)).av=W at *
 unfold nCONCAT
 refine a18 (by simp) ?_
 simp (disch:=first|assumption|omega|(simp only [List.length_append,List.length_cons,List.length_nil];omega)) only [go_sem,nes_CONCAT]
 refine h1.mono ?_
 rintro r σ' ⟨rfl,rfl⟩
 simp (disch:=first|assumption|omega|(simp only [List.length_append,List.length_cons,List.length_nil];omega)) only [go_sem,nes_CONCAT]
 exact retC_by (.refl _) (.refl _) ⟨rfl,rfl⟩
end Go.A
namespace Go.A
open Go.Proofs
/-! 12: tabular/tabularref17.Call -/
def c12_75:ACode := .seq (.ops [ oq 152 (.bin .lss (.t 151) (.t 150))]) (.seq (.cond (.t 152) .skip (.exit 0)) (.seq (.block 1 (.seq (.ops [ oq 153 (.mv (.t 151)),oq 19 (.mv (.t 153))]) (.seq (.ops [ oq 155 (.ld (some 2) (.t 7)),oq 156 (.mv (.t 19)),oe 157 (.call 28 [(.t 155),(.t 156)]),oq 154 (.mv (.t 157)),oq 158 (.ext 0 (.t 154)),oq 159 (.ext 1 (.t 154)),oe 20 (.alloc [(.sl .full []),(.int .i64 0)]),oz (.store 2 (.t 20) (.t 158)),oq 21 (.mv (.t 159))]) (.seq (.ops [ oq 160 (.ld (some 2) (.t 20)),oz (.store 2 (.t 7) (.t 160))]) (.ops [ oq 161 (.ld (some 3) (.t 18)),oq 162 (.mv (.t 21)),⟨some 163,none,.e (.call 22 [(.t 162)]),[⟨none,.ld (some 3) (.t 18),161⟩]⟩,oe 164 (.call 29 [(.t 161),(.t 163)]),oz (.store 3 (.t 18) (.t 164))]))))) (.ops [ oq 165 (.bin .add (.t 151) (.v (.int .i64 1))),oq 151 (.mv (.t 165))])))
def c12_80:ACode := .seq (.ops [ oq 166 (.ld (some 2) (.t 7)),oq 167 (.ld (some 3) (.t 18)),oe 168 (.call 25 [(.t 166),(.t 167)]),oz (.store 3 (.t 4) (.t 168))]) .ret
def c12_115:ACode := .seq (.ops [ oq 218 (.bin .lss (.t 217) (.t 216))]) (.seq (.cond (.t 218) .skip (.exit 3)) (.seq (.block 4 (.seq (.ops [ oq 219 (.ia 1 (.t 215) (.t 217)),oq 220 (.ld none (.t 219)),oq 26 (.mv (.t 220))]) (.ops [ oq 221 (.mv (.t 26)),oq 222 (.mv (.t 24)),oq 223 (.bin .add (.t 221) (.t 222)),oq 24 (.mv (.t 223))]))) (.ops [ oq 224 (.bin .add (.t 217) (.v (.int .i64 1))),oq 217 (.mv (.t 224))])))
def c12_120:ACode := .seq (.ops [ oq 225 (.ld (some 2) (.t 7)),oq 226 (.mv (.t 24)),⟨some 227,none,.e (.call 22 [(.t 226)]),[⟨none,.ld (some 2) (.t 7),225⟩]⟩,oe 228 (.call 25 [(.t 225),(.t 227)]),oz (.store 3 (.t 4) (.t 228))]) .ret
def c12_192:ACode := .seq (.seq (.ops [ oq 346 (.mv (.t 38)),oq 347 (.mv (.t 36)),oq 348 (.bin .lss (.t 346) (.t 347)),oq 349 (.mv (.t 348)),⟨some 350,some (349,true),.q (.mv (.t 22)),[]⟩,⟨some 351,some (349,true),.q (.bin .neq (.t 350) (.v (.str []))),[]⟩,oq 352 (.pick (.t 349) (.t 351) (.v (.bool false)))]) (.cond (.t 352) .skip (.exit 5))) (.seq (.block 6 (.ops [ oq 355 (.mv (.t 37)),oq 356 (.mv (.t 22)),oq 357 (.bin .add (.t 355) (.t 356)),oq 37 (.mv (.t 357))])) (.ops [ oq 353 (.mv (.t 38)),oq 354 (.bin .add (.t 353) (.v (.int .i64 1))),oq 38 (.mv (.t 354))]))
def c12_197:ACode := .seq (.ops [ oq 358 (.ld (some 2) (.t 35)),oq 359 (.mv (.t 37)),⟨some 360,none,.e (.call 22 [(.t 359)]),[⟨none,.ld (some 2) (.t 35),358⟩]⟩,oe 361 (.call 25 [(.t 358),(.t 360)]),oz (.store 3 (.t 4) (.t 361))]) .ret
def c12_241:ACode := .cond (.t 375) (.seq (.ops [ oq 379 (.ld (some 2) (.t 7)),oe 380 (.call 28 [(.t 379),(.v (.int .i64 1))]),oq 378 (.mv (.t 380)),oq 381 (.ext 0 (.t 378)),oq 382 (.ext 1 (.t 378)),oe 41 (.alloc [(.sl .full []),(.int .i64 0)]),oz (.store 2 (.t 41) (.t 381)),oq 42 (.mv (.t 382))]) (.seq (.ops [ oq 384 (.ld (some 2) (.t 41)),oe 385 (.call 23 [(.t 384),(.v (.int .i64 2)),(.v (.int .i64 1))]),oq 383 (.mv (.t 385)),oq 386 (.ext 0 (.t 383)),oq 387 (.ext 1 (.t 383)),oe 43 (.alloc [(.sl .full []),(.int .i64 0)]),oz (.store 2 (.t 43) (.t 386)),oq 44 (.mv (.t 387))]) (.seq (.seq (.ops [ oq 388 (.mv (.t 0)),oq 389 (.bin .eql (.t 388) (.v (.str [83,69,65,82,67,72])))]) (.cond (.t 389) (.seq (.ops [ oq 390 (.mv (.t 22)),oe 391 (.call 32 [(.t 390)]),oq 22 (.mv (.t 391))]) (.ops [ oq 392 (.mv (.t 42)),oe 393 (.call 32 [(.t 392)]),oq 42 (.mv (.t 393))])) .skip)) (.seq (.ops [ oq 394 (.ld (some 2) (.t 43)),oq 395 (.mv (.t 22)),oq 396 (.mv (.t 42)),oq 397 (.mv (.t 44)),⟨some 398,none,.e (.call 40 [(.t 395),(.t 396),(.t 397)]),[⟨none,.ld (some 2) (.t 43),394⟩]⟩,oe 399 (.call 25 [(.t 394),(.t 398)]),oz (.store 3 (.t 4) (.t 399))]) .ret)))) (.seq (.ops [ oq 401 (.bin .eql (.t 176) (.v (.str [83,85,66,83,84,73,84,85,84,69]))),oq 400 (.mv (.t 401))]) (.cond (.t 400) (.seq (.ops [ oq 403 (.ld (some 2) (.t 7)),oe 404 (.call 28 [(.t 403),(.v (.int .i64 1))]),oq 402 (.mv (.t 404)),oq 405 (.ext 0 (.t 402)),oq 406 (.ext 1 (.t 402)),oe 45 (.alloc [(.sl .full []),(.int .i64 0)]),oz (.store 2 (.t 45) (.t 405)),oq 46 (.mv (.t 406))]) (.seq (.ops [ oq 408 (.ld (some 2) (.t 45)),oe 409 (.call 28 [(.t 408),(.v (.int .i64 2))]),oq 407 (.mv (.t 409)),oq 410 (.ext 0 (.t 407)),oq 411 (.ext 1 (.t 407)),oe 47 (.alloc [(.sl .full []),(.int .i64 0)]),oz (.store 2 (.t 47) (.t 410)),oq 48 (.mv (.t 411))]) (.seq (.ops [ oq 413 (.ld (some 2) (.t 47)),oe 414 (.call 23 [(.t 413),(.v (.int .i64 3)),(.v (.int .i64 0))]),oq 412 (.mv (.t 414)),oq 415 (.ext 0 (.t 412)),oq 416 (.ext 1 (.t 412)),oe 49 (.alloc [(.sl .full []),(.int .i64 0)]),oz (.store 2 (.t 49) (.t 415)),oq 50 (.mv (.t 416))]) (.seq (.seq (.ops [ oq 417 (.mv (.t 1)),oq 418 (.len (.t 417)),oq 419 (.bin .gtr (.t 418) (.v (.int .i64 3))),oq 420 (.mv (.t 419)),⟨some 421,some (420,true),.q (.mv (.t 50)),[]⟩,⟨some 422,some (420,true),.q (.bin .lss (.t 421) (.v (.int .i64 1))),[]⟩,oq 423 (.pick (.t 420) (.t 422) (.v (.bool false)))]) (.cond (.t 423) (.seq (.ops [ oq 424 (.ld (some 2) (.t 49)),oq 425 (.ld (some 3) (.t 8)),oe 426 (.call 25 [(.t 424),(.t 425)]),oz (.store 3 (.t 4) (.t 426))]) .ret) .skip)) (.seq (.ops [ oq 427 (.ld (some 2) (.t 49)),oq 428 (.mv (.t 22)),oq 429 (.mv (.t 46)),oq 430 (.mv (.t 48)),oq 431 (.mv (.t 50)),⟨some 432,none,.e (.call 41 [(.t 428),(.t 429),(.t 430),(.t 431)]),[⟨none,.ld (some 2) (.t 49),427⟩]⟩,oe 433 (.call 25 [(.t 427),(.t 432)]),oz (.store 3 (.t 4) (.t 433))]) .ret))))) .skip))
def c12_247:ACode := .cond (.t 297) (.seq (.ops [ oq 300 (.ld (some 2) (.t 7)),oe 301 (.call 23 [(.t 300),(.v (.int .i64 1)),(.v (.int .i64 1))]),oq 299 (.mv (.t 301)),oq 302 (.ext 0 (.t 299)),oq 303 (.ext 1 (.t 299)),oe 31 (.alloc [(.sl .full []),(.int .i64 0)]),oz (.store 2 (.t 31) (.t 302)),oq 32 (.mv (.t 303))]) (.seq (.ops [ oq 305 (.ld (some 2) (.t 31)),oe 306 (.call 23 [(.t 305),(.v (.int .i64 2)),(.v (.int .i64 1))]),oq 304 (.mv (.t 306)),oq 307 (.ext 0 (.t 304)),oq 308 (.ext 1 (.t 304)),oe 33 (.alloc [(.sl .full []),(.int .i64 0)]),oz (.store 2 (.t 33) (.t 307)),oq 34 (.mv (.t 308))]) (.seq (.seq (.ops [ oq 309 (.mv (.t 32)),oq 310 (.bin .lss (.t 309) (.v (.int .i64 1))),oq 311 (.mv (.t 310)),⟨some 312,some (311,false),.q (.mv (.t 34)),[]⟩,⟨some 313,some (311,false),.q (.bin .lss (.t 312) (.v (.int .i64 0))),[]⟩,oq 314 (.pick (.t 311) (.v (.bool true)) (.t 313))]) (.cond (.t 314) (.seq (.ops [ oq 315 (.ld (some 2) (.t 33)),oq 316 (.ld (some 3) (.t 8)),oe 317 (.call 25 [(.t 315),(.t 316)]),oz (.store 3 (.t 4) (.t 317))]) .ret) .skip)) (.seq (.ops [ oq 318 (.ld (some 2) (.t 33)),oq 319 (.mv (.t 23)),oq 320 (.mv (.t 32)),oq 321 (.bin .sub (.t 320) (.v (.int .i64 1))),oq 322 (.mv (.t 34)),⟨some 323,none,.e (.call 38 [(.t 319),(.t 321),(.t 322)]),[⟨none,.ld (some 2) (.t 33),318⟩]⟩,⟨some 324,none,.e (.call 37 [(.t 323)]),[⟨none,.ld (some 2) (.t 33),318⟩]⟩,⟨some 325,none,.e (.call 22 [(.t 324)]),[⟨none,.ld (some 2) (.t 33),318⟩]⟩,oe 326 (.call 25 [(.t 318),(.t 325)]),oz (.store 3 (.t 4) (.t 326))]) .ret)))) (.seq (.ops [ oq 328 (.bin .eql (.t 176) (.v (.str [82,69,80,84]))),oq 327 (.mv (.t 328))]) (.cond (.t 327) (.seq (.ops [ oq 330 (.ld (some 2) (.t 7)),oe 331 (.call 23 [(.t 330),(.v (.int .i64 1)),(.v (.int .i64 1))]),oq 329 (.mv (.t 331)),oq 332 (.ext 0 (.t 329)),oq 333 (.ext 1 (.t 329)),oe 35 (.alloc [(.sl .full []),(.int .i64 0)]),oz (.store 2 (.t 35) (.t 332)),oq 36 (.mv (.t 333))]) (.seq (.seq (.ops [ oq 334 (.mv (.t 36)),oq 335 (.bin .lss (.t 334) (.v (.int .i64 0))),oq 336 (.mv (.t 335)),⟨some 337,some (336,false),.q (.mv (.t 36)),[]⟩,⟨some 338,some (336,false),.q (.mv (.t 22)),[]⟩,⟨some 339,some (336,false),.q (.lenS (.t 338)),[]⟩,⟨some 340,some (336,false),.q (.bin .mul (.t 337) (.t 339)),[]⟩,⟨some 341,some (336,false),.q (.bin .gtr (.t 340) (.v (.int .i64 2000))),[]⟩,oq 342 (.pick (.t 336) (.v (.bool true)) (.t 341))]) (.cond (.t 342) (.seq (.ops [ oq 343 (.ld (some 2) (.t 35)),oq 344 (.ld (some 3) (.t 8)),oe 345 (.call 25 [(.t 343),(.t 344)]),oz (.store 3 (.t 4) (.t 345))]) .ret) .skip)) (.seq (.ops [ oq 37 (.mv (.v (.str [])))]) (.seq (.seq (.ops [ oq 38 (.mv (.v (.int .i64 0)))]) (.block 5 (.loop c12_192))) c12_197)))) (.seq (.ops [ oq 363 (.bin .eql (.t 176) (.v (.str [69,88,65,67,84]))),oq 362 (.mv (.t 363))]) (.cond (.t 362) (.seq (.ops [ oq 365 (.ld (some 2) (.t 7)),oe 366 (.call 28 [(.t 365),(.v (.int .i64 1))]),oq 364 (.mv (.t 366)),oq 367 (.ext 0 (.t 364)),oq 368 (.ext 1 (.t 364)),oe 39 (.alloc [(.sl .full []),(.int .i64 0)]),oz (.store 2 (.t 39) (.t 367)),oq 40 (.mv (.t 368))]) (.seq (.ops [ oq 369 (.ld (some 2) (.t 39)),oq 370 (.mv (.t 22)),oq 371 (.mv (.t 40)),oq 372 (.bin .eql (.t 370) (.t 371)),⟨some 373,none,.e (.call 39 [(.t 372)]),[⟨none,.ld (some 2) (.t 39),369⟩]⟩,oe 374 (.call 25 [(.t 369),(.t 373)]),oz (.store 3 (.t 4) (.t 374))]) .ret)) (.seq (.seq (.ops [ oq 376 (.bin .eql (.t 176) (.v (.str [70,73,78,68]))),oq 375 (.mv (.t 376))]) (.cond (.t 375) .skip (.ops [ oq 377 (.bin .eql (.t 176) (.v (.str [83,69,65,82,67,72]))),oq 375 (.mv (.t 377))]))) c12_241)))))
def c12_252:ACode := .seq (.ops [ oq 246 (.bin .eql (.t 176) (.v (.str [86,65,76,85,69]))),oq 245 (.mv (.t 246))]) (.cond (.t 245) (.seq (.ops [ oq 248 (.mv (.t 22)),oe 249 (.call 22 [(.t 248)]),oe 250 (.call 26 [(.t 249)]),oq 247 (.mv (.t 250)),oq 251 (.ext 0 (.t 247)),oq 252 (.ext 1 (.t 247)),oq 27 (.mv (.t 251)),oq 28 (.mv (.t 252))]) (.seq (.seq (.ops [ oq 253 (.mv (.t 28)),oq 254 (.bin .neq (.t 253) (.v (.int .i64 0)))]) (.cond (.t 254) (.seq (.ops [ oq 255 (.ld (some 2) (.t 7)),oq 256 (.mv (.t 28)),⟨some 257,none,.e (.call 21 [(.t 256)]),[⟨none,.ld (some 2) (.t 7),255⟩]⟩,oe 258 (.call 25 [(.t 255),(.t 257)]),oz (.store 3 (.t 4) (.t 258))]) .ret) .skip)) (.seq (.ops [ oq 259 (.ld (some 2) (.t 7)),oq 260 (.mv (.t 27)),⟨some 261,none,.e (.call 31 [(.t 260)]),[⟨none,.ld (some 2) (.t 7),259⟩]⟩,oe 262 (.call 25 [(.t 259),(.t 261)]),oz (.store 3 (.t 4) (.t 262))]) .ret))) (.seq (.seq (.ops [ oq 264 (.bin .eql (.t 176) (.v (.str [76,69,70,84]))),oq 263 (.mv (.t 264))]) (.cond (.t 263) .skip (.ops [ oq 265 (.bin .eql (.t 176) (.v (.str [82,73,71,72,84]))),oq 263 (.mv (.t 265))]))) (.cond (.t 263) (.seq (.ops [ oq 267 (.ld (some 2) (.t 7)),oe 268 (.call 23 [(.t 267),(.v (.int .i64 1)),(.v (.int .i64 1))]),oq 266 (.mv (.t 268)),oq 269 (.ext 0 (.t 266)),oq 270 (.ext 1 (.t 266)),oe 29 (.alloc [(.sl .full []),(.int .i64 0)]),oz (.store 2 (.t 29) (.t 269)),oq 30 (.mv (.t 270))]) (.seq (.seq (.ops [ oq 271 (.mv (.t 30)),oq 272 (.bin .lss (.t 271) (.v (.int .i64 0)))]) (.cond (.t 272) (.seq (.ops [ oq 273 (.ld (some 2) (.t 29)),oq 274 (.ld (some 3) (.t 8)),oe 275 (.call 25 [(.t 273),(.t 274)]),oz (.store 3 (.t 4) (.t 275))]) .ret) .skip)) (.seq (.seq (.ops [ oq 276 (.mv (.t 0)),oq 277 (.bin .eql (.t 276) (.v (.str [76,69,70,84])))]) (.cond (.t 277) (.seq (.ops [ oq 278 (.ld (some 2) (.t 29)),oq 279 (.mv (.t 23)),oq 280 (.mv (.t 30)),⟨some 281,none,.e (.call 38 [(.t 279),(.v (.int .i64 0)),(.t 280)]),[⟨none,.ld (some 2) (.t 29),278⟩]⟩,⟨some 282,none,.e (.call 37 [(.t 281)]),[⟨none,.ld (some 2) (.t 29),278⟩]⟩,⟨some 283,none,.e (.call 22 [(.t 282)]),[⟨none,.ld (some 2) (.t 29),278⟩]⟩,oe 284 (.call 25 [(.t 278),(.t 283)]),oz (.store 3 (.t 4) (.t 284))]) .ret) .skip)) (.seq (.ops [ oq 285 (.ld (some 2) (.t 29)),oq 286 (.mv (.t 23)),oq 287 (.mv (.t 23)),oq 288 (.len (.t 287)),oq 289 (.mv (.t 30)),oq 290 (.bin .sub (.t 288) (.t 289)),oq 291 (.mnx true (.t 290) (.v (.int .i64 0))),oq 292 (.mv (.t 30)),⟨some 293,none,.e (.call 38 [(.t 286),(.t 291),(.t 292)]),[⟨none,.ld (some 2) (.t 29),285⟩]⟩,⟨some 294,none,.e (.call 37 [(.t 293)]),[⟨none,.ld (some 2) (.t 29),285⟩]⟩,⟨some 295,none,.e (.call 22 [(.t 294)]),[⟨none,.ld (some 2) (.t 29),285⟩]⟩,oe 296 (.call 25 [(.t 285),(.t 295)]),oz (.store 3 (.t 4) (.t 296))]) .ret)))) (.seq (.ops [ oq 298 (.bin .eql (.t 176) (.v (.str [77,73,68]))),oq 297 (.mv (.t 298))]) c12_247))))
def c12_265:ACode := .cond (.t 177) (.seq (.ops [ oq 179 (.ld (some 2) (.t 7)),oq 180 (.mv (.t 23)),oq 181 (.len (.t 180)),oq 182 (.bin .mul (.t 181) (.v (.int .i64 10000))),⟨some 183,none,.e (.call 31 [(.t 182)]),[⟨none,.ld (some 2) (.t 7),179⟩]⟩,oe 184 (.call 25 [(.t 179),(.t 183)]),oz (.store 3 (.t 4) (.t 184))]) .ret) (.seq (.ops [ oq 186 (.bin .eql (.t 176) (.v (.str [85,80,80,69,82]))),oq 185 (.mv (.t 186))]) (.cond (.t 185) (.seq (.ops [ oq 187 (.ld (some 2) (.t 7)),oq 188 (.mv (.t 22)),⟨some 189,none,.e (.call 32 [(.t 188)]),[⟨none,.ld (some 2) (.t 7),187⟩]⟩,⟨some 190,none,.e (.call 22 [(.t 189)]),[⟨none,.ld (some 2) (.t 7),187⟩]⟩,oe 191 (.call 25 [(.t 187),(.t 190)]),oz (.store 3 (.t 4) (.t 191))]) .ret) (.seq (.ops [ oq 193 (.bin .eql (.t 176) (.v (.str [76,79,87,69,82]))),oq 192 (.mv (.t 193))]) (.cond (.t 192) (.seq (.ops [ oq 194 (.ld (some 2) (.t 7)),oq 195 (.mv (.t 22)),⟨some 196,none,.e (.call 33 [(.t 195)]),[⟨none,.ld (some 2) (.t 7),194⟩]⟩,⟨some 197,none,.e (.call 22 [(.t 196)]),[⟨none,.ld (some 2) (.t 7),194⟩]⟩,oe 198 (.call 25 [(.t 194),(.t 197)]),oz (.store 3 (.t 4) (.t 198))]) .ret) (.seq (.ops [ oq 200 (.bin .eql (.t 176) (.v (.str [80,82,79,80,69,82]))),oq 199 (.mv (.t 200))]) (.cond (.t 199) (.seq (.ops [ oq 201 (.ld (some 2) (.t 7)),oq 202 (.mv (.t 22)),⟨some 203,none,.e (.call 34 [(.t 202)]),[⟨none,.ld (some 2) (.t 7),201⟩]⟩,⟨some 204,none,.e (.call 22 [(.t 203)]),[⟨none,.ld (some 2) (.t 7),201⟩]⟩,oe 205 (.call 25 [(.t 201),(.t 204)]),oz (.store 3 (.t 4) (.t 205))]) .ret) (.seq (.ops [ oq 207 (.bin .eql (.t 176) (.v (.str [84,82,73,77]))),oq 206 (.mv (.t 207))]) (.cond (.t 206) (.seq (.ops [ oq 208 (.ld (some 2) (.t 7)),oq 209 (.mv (.t 22)),⟨some 210,none,.e (.call 35 [(.t 209)]),[⟨none,.ld (some 2) (.t 7),208⟩]⟩,⟨some 211,none,.e (.call 22 [(.t 210)]),[⟨none,.ld (some 2) (.t 7),208⟩]⟩,oe 212 (.call 25 [(.t 208),(.t 211)]),oz (.store 3 (.t 4) (.t 212))]) .ret) (.seq (.ops [ oq 214 (.bin .eql (.t 176) (.v (.str [82,69,86,69,82,83,69]))),oq 213 (.mv (.t 214))]) (.cond (.t 213) (.seq (.ops [ oq 24 (.mv (.v (.str [])))]) (.seq (.seq (.ops [ oq 215 (.mv (.t 23)),oq 216 (.len (.t 215)),oq 217 (.mv (.v (.int .i64 0)))]) (.block 3 (.loop c12_115))) c12_120)) (.seq (.ops [ oq 230 (.bin .eql (.t 176) (.v (.str [67,79,68,69]))),oq 229 (.mv (.t 230))]) (.cond (.t 229) (.seq (.seq (.ops [ oq 231 (.mv (.t 23)),oq 232 (.len (.t 231)),oq 233 (.bin .eql (.t 232) (.v (.int .i64 0)))]) (.cond (.t 233) (.seq (.ops [ oq 234 (.ld (some 2) (.t 7)),oq 235 (.ld (some 3) (.t 8)),oe 236 (.call 25 [(.t 234),(.t 235)]),oz (.store 3 (.t 4) (.t 236))]) .ret) .skip)) (.seq (.ops [ oq 237 (.ld (some 2) (.t 7)),oq 238 (.mv (.t 23)),oq 239 (.ia 1 (.t 238) (.v (.int .i64 0))),oq 240 (.ld none (.t 239)),⟨some 241,none,.e (.call 36 [(.t 240)]),[⟨none,.ld (some 2) (.t 7),237⟩]⟩,oq 242 (.bin .mul (.t 241) (.v (.int .i64 10000))),⟨some 243,none,.e (.call 31 [(.t 242)]),[⟨none,.ld (some 2) (.t 7),237⟩]⟩,oe 244 (.call 25 [(.t 237),(.t 243)]),oz (.store 3 (.t 4) (.t 244))]) .ret)) c12_252))))))))))))
def c12_282:ACode := .seq (.ops [ oq 435 (.ld (some 2) (.t 7)),oe 436 (.call 23 [(.t 435),(.v (.int .i64 1)),(.v (.int .i64 1))]),oq 434 (.mv (.t 436)),oq 437 (.ext 0 (.t 434)),oq 438 (.ext 1 (.t 434)),oe 51 (.alloc [(.sl .full []),(.int .i64 0)]),oz (.store 2 (.t 51) (.t 437)),oq 52 (.mv (.t 438))]) (.seq (.ops [ oq 440 (.ld (some 2) (.t 51)),oe 441 (.call 23 [(.t 440),(.v (.int .i64 2)),(.v (.int .i64 1))]),oq 439 (.mv (.t 441)),oq 442 (.ext 0 (.t 439)),oq 443 (.ext 1 (.t 439)),oe 53 (.alloc [(.sl .full []),(.int .i64 0)]),oz (.store 2 (.t 53) (.t 442)),oq 54 (.mv (.t 443))]) (.seq (.ops [ oq 445 (.ld (some 2) (.t 53)),oe 446 (.call 28 [(.t 445),(.v (.int .i64 3))]),oq 444 (.mv (.t 446)),oq 447 (.ext 0 (.t 444)),oq 448 (.ext 1 (.t 444)),oe 55 (.alloc [(.sl .full []),(.int .i64 0)]),oz (.store 2 (.t 55) (.t 447)),oq 56 (.mv (.t 448))]) (.seq (.seq (.ops [ oq 449 (.mv (.t 52)),oq 450 (.bin .lss (.t 449) (.v (.int .i64 1))),oq 451 (.mv (.t 450)),⟨some 452,some (451,false),.q (.mv (.t 54)),[]⟩,⟨some 453,some (451,false),.q (.bin .lss (.t 452) (.v (.int .i64 0))),[]⟩,oq 454 (.pick (.t 451) (.v (.bool true)) (.t 453))]) (.cond (.t 454) (.seq (.ops [ oq 455 (.ld (some 2) (.t 55)),oq 456 (.ld (some 3) (.t 8)),oe 457 (.call 25 [(.t 455),(.t 456)]),oz (.store 3 (.t 4) (.t 457))]) .ret) .skip)) (.seq (.ops [ oq 458 (.ld (some 2) (.t 55)),oq 459 (.mv (.t 23)),oq 460 (.mv (.t 52)),oq 461 (.bin .sub (.t 460) (.v (.int .i64 1))),oq 464 (.mv (.t 56)),oq 466 (.mv (.t 23)),oq 467 (.mv (.t 52)),oq 468 (.bin .sub (.t 467) (.v (.int .i64 1))),oq 469 (.mv (.t 54)),oq 470 (.bin .add (.t 468) (.t 469)),oq 471 (.mv (.t 23)),oq 472 (.len (.t 471)),⟨some 462,none,.e (.call 38 [(.t 459),(.v (.int .i64 0)),(.t 461)]),[⟨none,.ld (some 2) (.t 55),458⟩]⟩,⟨some 463,none,.e (.call 37 [(.t 462)]),[⟨none,.ld (some 2) (.t 55),458⟩]⟩,oq 465 (.bin .add (.t 463) (.t 464)),⟨some 473,none,.e (.call 38 [(.t 466),(.t 470),(.t 472)]),[⟨none,.ld (some 2) (.t 55),458⟩]⟩,⟨some 474,none,.e (.call 37 [(.t 473)]),[⟨none,.ld (some 2) (.t 55),458⟩]⟩,oq 475 (.bin .add (.t 465) (.t 474)),⟨some 476,none,.e (.call 42 [(.t 475)]),[⟨none,.ld (some 2) (.t 55),458⟩]⟩,oe 477 (.call 25 [(.t 458),(.t 476)]),oz (.store 3 (.t 4) (.t 477))]) .ret))))
def c12_283:ACode := .seq (.seq (.ops [ oq 176 (.mv (.t 0))]) (.block 2 (.seq (.ops [ oq 178 (.bin .eql (.t 176) (.v (.str [76,69,78]))),oq 177 (.mv (.t 178))]) c12_265))) c12_282
def c12_288:ACode := .seq (.seq (.ops [ oq 97 (.mv (.t 0)),oq 98 (.bin .eql (.t 97) (.v (.str [67,72,65,82])))]) (.cond (.t 98) (.seq (.ops [ oq 100 (.ld (some 2) (.t 7)),oe 101 (.call 23 [(.t 100),(.v (.int .i64 0)),(.v (.int .i64 0))]),oq 99 (.mv (.t 101)),oq 102 (.ext 0 (.t 99)),oq 103 (.ext 1 (.t 99)),oe 9 (.alloc [(.sl .full []),(.int .i64 0)]),oz (.store 2 (.t 9) (.t 102)),oq 10 (.mv (.t 103))]) (.seq (.ops [ oq 104 (.mv (.t 10)),oe 105 (.call 24 [(.t 104)]),oq 11 (.mv (.t 105))]) (.seq (.seq (.ops [ oq 106 (.mv (.t 11)),oq 107 (.bin .eql (.t 106) (.v (.str [])))]) (.cond (.t 107) (.seq (.ops [ oq 108 (.ld (some 2) (.t 9)),oq 109 (.ld (some 3) (.t 8)),oe 110 (.call 25 [(.t 108),(.t 109)]),oz (.store 3 (.t 4) (.t 110))]) .ret) .skip)) (.seq (.ops [ oq 111 (.ld (some 2) (.t 9)),oq 112 (.mv (.t 11)),⟨some 113,none,.e (.call 22 [(.t 112)]),[⟨none,.ld (some 2) (.t 9),111⟩]⟩,oe 114 (.call 25 [(.t 111),(.t 113)]),oz (.store 3 (.t 4) (.t 114))]) .ret)))) .skip)) (.seq (.seq (.ops [ oq 115 (.mv (.t 0)),oq 116 (.bin .eql (.t 115) (.v (.str [70,73,88,69,68])))]) (.cond (.t 116) (.seq (.ops [ oq 118 (.mv (.t 1)),oq 119 (.ia 3 (.t 118) (.v (.int .i64 0))),oq 120 (.ld (some 3) (.t 119)),oe 121 (.call 26 [(.t 120)]),oq 117 (.mv (.t 121)),oq 122 (.ext 0 (.t 117)),oq 123 (.ext 1 (.t 117)),oq 12 (.mv (.t 122)),oq 13 (.mv (.t 123))]) (.seq (.ops [ oq 124 (.mv (.t 13)),oq 125 (.fa 1 (.t 7)),oz (.store 1 (.t 125) (.t 124))]) (.seq (.ops [ oq 127 (.ld (some 2) (.t 7)),oe 128 (.call 23 [(.t 127),(.v (.int .i64 1)),(.v (.int .i64 2))]),oq 126 (.mv (.t 128)),oq 129 (.ext 0 (.t 126)),oq 130 (.ext 1 (.t 126)),oe 14 (.alloc [(.sl .full []),(.int .i64 0)]),oz (.store 2 (.t 14) (.t 129)),oq 15 (.mv (.t 130))]) (.seq (.ops [ oq 132 (.mv (.t 12)),oq 133 (.mv (.t 15)),oe 134 (.call 27 [(.t 132),(.t 133)]),oq 131 (.mv (.t 134)),oq 135 (.ext 0 (.t 131)),oq 136 (.ext 1 (.t 131)),oq 16 (.mv (.t 135)),oq 17 (.mv (.t 136))]) (.seq (.seq (.ops [ oq 137 (.mv (.t 17)),oq 138 (.un .not (.t 137))]) (.cond (.t 138) (.seq (.ops [ oq 139 (.ld (some 2) (.t 14)),⟨some 140,none,.e (.call 21 [(.v (.int .i64 2))]),[⟨none,.ld (some 2) (.t 14),139⟩]⟩,oe 141 (.call 25 [(.t 139),(.t 140)]),oz (.store 3 (.t 4) (.t 141))]) .ret) .skip)) (.seq (.ops [ oq 142 (.ld (some 2) (.t 14)),oq 143 (.mv (.t 16)),⟨some 144,none,.e (.call 22 [(.t 143)]),[⟨none,.ld (some 2) (.t 14),142⟩]⟩,oe 145 (.call 25 [(.t 142),(.t 144)]),oz (.store 3 (.t 4) (.t 145))]) .ret)))))) .skip)) (.seq (.seq (.ops [ oq 146 (.mv (.t 0)),oq 147 (.bin .eql (.t 146) (.v (.str [67,79,78,67,65,84])))]) (.cond (.t 147) (.seq (.ops [ oe 148 (.call 22 [(.v (.str []))]),oe 18 (.alloc [(.int .i64 0),(.int .i64 0),(.str [])]),oz (.store 3 (.t 18) (.t 148))]) (.seq (.seq (.ops [ oq 149 (.mv (.t 1)),oq 150 (.len (.t 149)),oq 151 (.mv (.v (.int .i64 0)))]) (.block 0 (.loop c12_75))) c12_80)) .skip)) (.seq (.ops [ oq 170 (.ld (some 2) (.t 7)),oe 171 (.call 28 [(.t 170),(.v (.int .i64 0))]),oq 169 (.mv (.t 171)),oq 172 (.ext 0 (.t 169)),oq 173 (.ext 1 (.t 169)),oz (.store 2 (.t 7) (.t 172)),oq 22 (.mv (.t 173))]) (.seq (.ops [ oq 174 (.mv (.t 22)),oe 175 (.call 30 [(.t 174)]),oq 23 (.mv (.t 175))]) c12_283))))
def c12_289:ACode := .seq (.seq (.ops [ oq 79 (.mv (.t 0)),oq 80 (.bin .eql (.t 79) (.v (.str [84])))]) (.cond (.t 80) (.seq (.seq (.ops [ oq 81 (.mv (.t 1)),oq 82 (.ia 3 (.t 81) (.v (.int .i64 0))),oq 83 (.fa 0 (.t 82)),oq 84 (.ld none (.t 83)),oq 85 (.bin .eql (.t 84) (.v (.int .i64 2))),oq 86 (.mv (.t 85)),⟨some 87,some (86,false),.q (.mv (.t 1)),[]⟩,⟨some 88,some (86,false),.q (.ia 3 (.t 87) (.v (.int .i64 0))),[]⟩,⟨some 89,some (86,false),.q (.fa 0 (.t 88)),[]⟩,⟨some 90,some (86,false),.q (.ld none (.t 89)),[]⟩,⟨some 91,some (86,false),.q (.bin .eql (.t 90) (.v (.int .i64 4))),[]⟩,oq 92 (.pick (.t 86) (.v (.bool true)) (.t 91))]) (.cond (.t 92) (.seq (.ops [ oq 93 (.mv (.t 1)),oq 94 (.ia 3 (.t 93) (.v (.int .i64 0))),oq 95 (.ld (some 3) (.t 94)),oz (.store 3 (.t 4) (.t 95))]) .ret) .skip)) (.seq (.ops [ oe 96 (.call 22 [(.v (.str []))]),oz (.store 3 (.t 4) (.t 96))]) .ret)) .skip)) c12_288
def c12_295:ACode := .seq (.ops [ oe 4 (.alloc [(.int .i64 0),(.int .i64 0),(.str [])])]) (.seq (.ops [ oq 58 (.mv (.t 0)),oe 59 (.call 16 [(.t 58)]),oq 57 (.mv (.t 59)),oq 60 (.ext 0 (.t 57)),oq 61 (.ext 1 (.t 57)),oq 5 (.mv (.t 60)),oq 6 (.mv (.t 61))]) (.seq (.seq (.ops [ oq 62 (.mv (.t 6)),oq 63 (.bin .eql (.t 62) (.v (.int .i64 0)))]) (.cond (.t 63) (.seq (.ops [ oe 64 (.call 21 [(.v (.int .i64 6))]),oz (.store 3 (.t 4) (.t 64))]) .ret) .skip)) (.seq (.seq (.ops [ oq 65 (.mv (.t 1)),oq 66 (.len (.t 65)),oq 67 (.mv (.t 5)),oq 68 (.bin .lss (.t 66) (.t 67)),oq 69 (.mv (.t 68)),⟨some 70,some (69,false),.q (.mv (.t 1)),[]⟩,⟨some 71,some (69,false),.q (.len (.t 70)),[]⟩,⟨some 72,some (69,false),.q (.mv (.t 6)),[]⟩,⟨some 73,some (69,false),.q (.bin .gtr (.t 71) (.t 72)),[]⟩,oq 74 (.pick (.t 69) (.v (.bool true)) (.t 73))]) (.cond (.t 74) (.seq (.ops [ oe 75 (.call 21 [(.v (.int .i64 3))]),oz (.store 3 (.t 4) (.t 75))]) .ret) .skip)) (.seq (.ops [ oq 76 (.mv (.t 1)),oq 77 (.build [(.sl .full []),(.int .i64 0)] [(0,1,(.t 76))]),oe 7 (.alloc [(.sl .full []),(.int .i64 0)]),oz (.store 2 (.t 7) (.t 77))]) (.seq (.ops [ oe 78 (.call 21 [(.v (.int .i64 3))]),oe 8 (.alloc [(.int .i64 0),(.int .i64 0),(.str [])]),oz (.store 3 (.t 8) (.t 78))]) c12_289)))))
@[go_sem] def c12_75_wp:=wp_of c12_75.eq_1
@[go_sem] def c12_80_wp:=wp_of c12_80.eq_1
@[go_sem] def c12_115_wp:=wp_of c12_115.eq_1
@[go_sem] def c12_120_wp:=wp_of c12_120.eq_1
@[go_sem] def c12_192_wp:=wp_of c12_192.eq_1
@[go_sem] def c12_197_wp:=wp_of c12_197.eq_1
@[go_sem] def c12_241_wp:=wp_of c12_241.eq_1
@[go_sem] def c12_247_wp:=wp_of c12_247.eq_1
@[go_sem] def c12_252_wp:=wp_of c12_252.eq_1
@[go_sem] def c12_265_wp:=wp_of c12_265.eq_1
@[go_sem] def c12_282_wp:=wp_of c12_282.eq_1
@[go_sem] def c12_283_wp:=wp_of c12_283.eq_1
@[go_sem] def c12_288_wp:=wp_of c12_288.eq_1
@[go_sem] def c12_289_wp:=wp_of c12_289.eq_1
@[go_sem] def c12_295_wp:=wp_of c12_295.eq_1
def c12:AFn:=⟨478,[.c 4 (some 3)],c12_295⟩
theorem c12_ok:compF Tryz.prog Tryz.f12=some c12:=by kernel_rfl
theorem a12 {args:List AV} {σ:ASt} {R:AV->ASt->Prop} (hl:args.length<=478) (h:c12_295.wp Tryz.prog (RetQ [.c 4 (some 3)] R) (init args) σ):ACalls Tryz.prog 12 args σ R:=acalls_of Tryz.func12 c12_ok hl h
end Go.A
end
