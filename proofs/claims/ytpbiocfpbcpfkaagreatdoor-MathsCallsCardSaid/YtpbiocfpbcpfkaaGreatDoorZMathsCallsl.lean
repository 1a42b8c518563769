/- Part 12 of what MathsCalls leans on: Rzc Ms Mm. -/
import Derived.Test.YtpbiocfpbcpfkaaGreatDoorRows
import Derived.ProofKit
import Derived.LaidMore
import Derived.OpenShut
import Derived.Stop.LaidErr
import Derived.MakeChecks
import Derived.SevenTiedAt
import Derived.Lay
import Derived.ChangeArms
import Derived.Lib.LaidU8
import Derived.Lib.LaidTab
import Derived.Test.YtpbiocfpbcpfkaaGreatDoorZMathsCallsk
set_option linter.defProp false
set_option linter.unusedSimpArgs false
set_option linter.unusedVariables false
set_option maxRecDepth 100000
namespace Go.A
open Go.Proofs Go.Lib
def goodNum (v:PV):Prop:=(asNum v).1.natAbs<=999999999999999999/\0<=(asNum v).2/\(asNum v).2<=7/\∀ n,v = .fail n->1<=n/\n<=7
theorem parseQ_le {m:Bool} {w p:List UInt8} {d:Bool} {n:Int} (h:parseQ m w p d=some n):n.natAbs<=999999999999999999:=by
 unfold parseQ at h
 split at h
 ·cases h
 ·obtain ⟨k,_,h2⟩:=Option.bind_eq_some_iff.1 h
  obtain ⟨h3,h4⟩:=madeP_some h2
  omega
theorem parseD_le {s:List UInt8} {n:Int} (h:parseD s=some n):n.natAbs<=999999999999999999:=by
 unfold parseD at h
 exact parseQ_le h
theorem ofP_num (p:Pl):goodNum (ofP p):=by
 unfold ofP
 split
 ·split
  ·rename_i h;exact ⟨h,Int.le_refl 0,(show (0:Int)<=7 by decide),fun n e=>by cases e⟩
  ·exact ⟨by decide,by decide,by decide,fun n e=>by cases e⟩
 split
 ·split
  ·cases hp:parseD (Lib.trimB p.s 32) with
   | none=>
     have e:asNum (.text p.s)=(0,3):=by simp only [asNum,hp]
     exact ⟨by rw [e];decide,by rw [e];decide,by rw [e];decide,fun n e=>by cases e⟩
   | some n=>
     have e:asNum (.text p.s)=(n,0):=by simp only [asNum,hp]
     exact ⟨by rw [e];exact parseD_le hp,by rw [e];exact Int.le_refl 0,by rw [e];exact (show (0:Int)<=7 by decide),fun n e=>by cases e⟩
  ·exact ⟨by decide,by decide,by decide,fun n e=>by cases e⟩
 split
 ·refine ⟨?_,?_,?_,fun n e=>by cases e⟩
  all_goals
   cases decide (p.n=1)<;>decide
 split
 ·split
  ·rename_i h
   unfold goodNum asNum
   refine ⟨by simp,by simp;omega,by simp;omega,fun n e=>by injection e with e;omega⟩
  ·exact ⟨by decide,by decide,by decide,fun n e=>by cases e⟩
 ·exact ⟨by decide,by decide,by decide,fun n e=>by cases e⟩
theorem argsP_num (L:List Pl):∀ v∈argsP L,goodNum v:=by
 intro v hv
 obtain ⟨p,_,rfl⟩:=List.mem_map.1 hv
 exact ofP_num _
theorem numsA_gen:∀ (L:List PV) (acc:List Int),(∀ v∈L,goodNum v)->(∀ a∈acc,a.natAbs<=999999999999999999) →
  (∀ N,numsA acc L = .inl N->N.length=acc.length+L.length/\∀ a∈N,a.natAbs<=999999999999999999)/\(∀ f,numsA acc L = .inr f->f≠0/\0<=f/\f<=7)
 | [],acc,_,ha=>⟨fun N h=>by injection h with h;subst h;exact ⟨rfl,ha⟩,fun f h=>by cases h⟩
 | v::L,acc,hg,ha=>by
   obtain ⟨g1,g2,g3,_⟩:=hg v List.mem_cons_self
   rw [numsA]
   by_cases h:(asNum v).2=0
   ·rw [if_pos h]
    obtain ⟨k1,k2⟩:=numsA_gen L (acc ++ [(asNum v).1]) (fun w hw=>hg w (List.mem_cons_of_mem _ hw)) (fun a h=>by
     rcases List.mem_append.1 h with h|h
     ·exact ha a h
     ·rw [List.mem_singleton.1 h];exact g1)
    refine ⟨fun N hN=>?_,k2⟩
    obtain ⟨h1,h2⟩:=k1 N hN
    exact ⟨by rw [h1];simp;omega,h2⟩
   ·rw [if_neg h]
    refine ⟨(fun N hN=>by cases hN),fun f hf=>?_⟩
    injection hf with hf
    subst hf
    exact ⟨h,g2,g3⟩
theorem numsA_inl {L:List PV} {N:List Int} (hg:∀ v∈L,goodNum v) (h:numsA [] L = .inl N):N.length=L.length/\∀ a∈N,a.natAbs<=999999999999999999:=by
 obtain ⟨h1,h2⟩:=(numsA_gen L [] hg (fun a h=>by cases h)).1 N h
 exact ⟨by simpa using h1,h2⟩
theorem numsA_inr {L:List PV} {f:Int} (hg:∀ v∈L,goodNum v) (h:numsA [] L = .inr f):f≠0/\0<=f/\f<=7:=(numsA_gen L [] hg (fun a h=>by cases h)).2 f h
theorem sec_b {a:Int} {T:List Int} {o:Int} (h:∀ x∈a::T,x.natAbs<=999999999999999999) (ho:o.natAbs<=999999999999999999):(secP (a::T) o).natAbs<=999999999999999999:=by
 cases T with
 | nil=>exact ho
 | cons b T=>exact h b (by simp)
theorem two_of {N:List Int} (h:N.length=2):∃ a b,N = [a,b]:=by
 match N,h with
 | [a,b],_=>exact ⟨a,b,rfl⟩
theorem three_of {N:List Int} (h:N.length=3):∃ a b d,N = [a,b,d]:=by
 match N,h with
 | [a,b,d],_=>exact ⟨a,b,d,rfl⟩
theorem tell_get {L:List PV} {i:Nat} {v:PV} (h:L[i]? = some v):(L.map tellAV)[i]? = some (tellAV v):=by rw [List.getElem?_map,h];rfl
theorem Drop.noneM {σ1 σ:ASt} (D:Drop σ1 σ) {b:Nat} (h:σ1 b=none):σ b=none:=by
 rcases D b with e|e
 ·rw [e];exact h
 ·exact e
theorem mtold_ok (v:PV):Pure Tryz.prog 9 [v.av] (tellAV v):=by
 intro σ
 have hT:=tell_ok v
 have hk:∃ x y z,tellAV v = .agg [.int .i64 x,.int .i64 y,.str z]:=by cases v<;>exact ⟨_,_,_,rfl⟩
 obtain ⟨x,y,z,ht⟩:=hk
 rw [ht] at hT ⊢
 generalize v.av=a at *
 refine a9 (by simp) ?_
 simp (disch:=first|assumption|omega|(simp only [List.length_append,List.length_cons,List.length_nil];omega)) only [go_sem,reduceCtorEq,Nat.reduceEqDiff,Nat.reduceAdd,Nat.reduceSub,Nat.reduceMul,Nat.reduceLeDiff,Int.reduceLT,Int.reduceLE,Int.reduceEq,↓reduceIte,Int.reduceNeg,Int.reduceAdd,Int.reduceSub,Int.reduceMul,true_imp_iff,forall_const,Nat.mul_one,Int.reduceToNat,Nat.reducePow,Int.reducePow,Bool.true_and,Bool.false_and,Bool.and_false]
 refine allocC_by fun b hb=>?_
 simp (disch:=first|assumption|omega|(simp only [List.length_append,List.length_cons,List.length_nil];omega)) only [go_sem,reduceCtorEq,Nat.reduceEqDiff,Nat.reduceAdd,Nat.reduceSub,Nat.reduceMul,Nat.reduceLeDiff,Int.reduceLT,Int.reduceLE,Int.reduceEq,↓reduceIte,Int.reduceNeg,Int.reduceAdd,Int.reduceSub,Int.reduceMul,true_imp_iff,forall_const,Nat.mul_one,Int.reduceToNat,Nat.reducePow,Int.reducePow,Bool.true_and,Bool.false_and,Bool.and_false]
 refine hT.use ?_
 simp (disch:=first|assumption|omega|(simp only [List.length_append,List.length_cons,List.length_nil];omega)) only [go_sem,reduceCtorEq,Nat.reduceEqDiff,Nat.reduceAdd,Nat.reduceSub,Nat.reduceMul,Nat.reduceLeDiff,Int.reduceLT,Int.reduceLE,Int.reduceEq,↓reduceIte,Int.reduceNeg,Int.reduceAdd,Int.reduceSub,Int.reduceMul,true_imp_iff,forall_const,Nat.mul_one,Int.reduceToNat,Nat.reducePow,Int.reducePow,Bool.true_and,Bool.false_and,Bool.and_false]
 refine allocC_by fun c hc=>?_
 repeat (with_reducible replace hc:=set_none hc;obtain ⟨_,_,hc⟩:=hc)
 simp (disch:=first|assumption|omega|(simp only [List.length_append,List.length_cons,List.length_nil];omega)) only [go_sem,reduceCtorEq,Nat.reduceEqDiff,Nat.reduceAdd,Nat.reduceSub,Nat.reduceMul,Nat.reduceLeDiff,Int.reduceLT,Int.reduceLE,Int.reduceEq,↓reduceIte,Int.reduceNeg,Int.reduceAdd,Int.reduceSub,Int.reduceMul,true_imp_iff,forall_const,Nat.mul_one,Int.reduceToNat,Nat.reducePow,Int.reducePow,Bool.true_and,Bool.false_and,Bool.and_false,ASt.set_set]
 exact retC_by (by repeat' (first|exact Drop.refl _|with_reducible refine Drop.off ?_ (by assumption))) (.refl _) ⟨rfl,rfl⟩
set_option maxHeartbeats 2000000 in
theorem rcall_of {σ:ASt} (s:List UInt8) (L:List PV) (R:PV) (hn:L.length<=1000) (hs:∀ v∈L,v.small) (hg:∀ v∈L,goodNum v) (h0:(limP s).2=0->R = .fail 6)
  (h1:(limP s).2≠0->((L.length:Int)<(limP s).1\/(limP s).2<L.length)->R = .fail 3)
  (h2:∀ f,(limP s).2≠0->(limP s).1<=L.length->(L.length:Int)<=(limP s).2->numsA [] L = .inr f->f≠0/\R = .fail f)
  (h3:∀ N,(limP s).2≠0->(limP s).1<=L.length->(L.length:Int)<=(limP s).2->numsA [] L = .inl N->∀ (c:Nat) (k:SK) (σ2:ASt),σ2 c=some (.obj [.int .i64 0,.int .i64 0,.str []])->(∀ X,Drop (σ2.set c X) σ)->∀ a1:AFr,(a1 0 = .str s/\a1 4 = .ptr c 0/\a1 7 = .sl k (N.map (AV.int .i64)))->ACode.wp Tryz.prog c12_224 (RetQ [.c 4 (some 3)] fun v σ'=>v=tellAV R/\σ'=σ) a1 σ2) :
  ACalls Tryz.prog 12 [.str s,.sl .shr (L.map tellAV)] σ (fun v σ'=>v=tellAV R/\σ'=σ):=by
 have hL:=rlimits_ok s
 generalize (limP s).1=least at *
 generalize (limP s).2=most at *
 obtain ⟨F,hF⟩:∃ F,F=ACode.wp Tryz.prog c12_224:=⟨_,rfl⟩
 rw [<-hF] at h3
 obtain ⟨V,hV⟩:∃ V,tellAV R=V:=⟨_,rfl⟩
 rw [hV] at h3 ⊢
 have hf6:R = .fail 6->Pure Tryz.prog 38 [.int .i64 6] V:=fun h=>by rw [<-hV,h];exact rFail_ok 6 (by omega) (by omega)
 have hf3:R = .fail 3->Pure Tryz.prog 38 [.int .i64 3] V:=fun h=>by rw [<-hV,h];exact rFail_ok 3 (by omega) (by omega)
 have hff:∀ f:Int,0<=f->f<=7->R = .fail f->Pure Tryz.prog 38 [.int .i64 f] V:=fun f g1 g2 h=>by rw [<-hV,h];exact rFail_ok f (by omega) (by omega)
 obtain ⟨x1,x2,x3,ht⟩:=tell_agg R
 rw [hV] at ht
 subst ht
 refine a12 (by simp) ?_
 simp (disch:=first|assumption|omega|(simp only [List.length_append,List.length_cons,List.length_nil];omega)) only [go_sem,reduceCtorEq,Nat.reduceEqDiff,Nat.reduceAdd,Nat.reduceSub,Nat.reduceMul,Nat.reduceLeDiff,Int.reduceLT,Int.reduceLE,Int.reduceEq,↓reduceIte,Int.reduceNeg,Int.reduceAdd,Int.reduceSub,Int.reduceMul,true_imp_iff,forall_const,Nat.mul_one,Int.reduceToNat,Nat.reducePow,Int.reducePow,Bool.true_and,Bool.false_and,Bool.and_false,←hF]
 refine allocC_by fun c hc=>?_
 repeat (with_reducible replace hc:=set_none hc;obtain ⟨_,_,hc⟩:=hc)
 simp (disch:=first|assumption|omega|(simp only [List.length_append,List.length_cons,List.length_nil];omega)) only [go_sem,reduceCtorEq,Nat.reduceEqDiff,Nat.reduceAdd,Nat.reduceSub,Nat.reduceMul,Nat.reduceLeDiff,Int.reduceLT,Int.reduceLE,Int.reduceEq,↓reduceIte,Int.reduceNeg,Int.reduceAdd,Int.reduceSub,Int.reduceMul,true_imp_iff,forall_const,Nat.mul_one,Int.reduceToNat,Nat.reducePow,Int.reducePow,Bool.true_and,Bool.false_and,Bool.and_false,←hF]
 refine hL.use ?_
 by_cases g0:most=0
 ·have hX:=hf6 (h0 g0)
  simp (disch:=first|assumption|omega|(simp only [List.length_append,List.length_cons,List.length_nil];omega)) only [go_sem,reduceCtorEq,Nat.reduceEqDiff,Nat.reduceAdd,Nat.reduceSub,Nat.reduceMul,Nat.reduceLeDiff,Int.reduceLT,Int.reduceLE,Int.reduceEq,↓reduceIte,Int.reduceNeg,Int.reduceAdd,Int.reduceSub,Int.reduceMul,true_imp_iff,forall_const,Nat.mul_one,Int.reduceToNat,Nat.reducePow,Int.reducePow,Bool.true_and,Bool.false_and,Bool.and_false,g0,←hF]
  refine hX.use ?_
  simp (disch:=first|assumption|omega|(simp only [List.length_append,List.length_cons,List.length_nil];omega)) only [go_sem,reduceCtorEq,Nat.reduceEqDiff,Nat.reduceAdd,Nat.reduceSub,Nat.reduceMul,Nat.reduceLeDiff,Int.reduceLT,Int.reduceLE,Int.reduceEq,↓reduceIte,Int.reduceNeg,Int.reduceAdd,Int.reduceSub,Int.reduceMul,true_imp_iff,forall_const,Nat.mul_one,Int.reduceToNat,Nat.reducePow,Int.reducePow,Bool.true_and,Bool.false_and,Bool.and_false,ASt.set_set,←hF]
  exact retC_by (by repeat' (first|exact Drop.refl _|with_reducible refine Drop.off ?_ (by assumption))) (.refl _) ⟨rfl,rfl⟩
 by_cases g1:(L.length:Int)<least
 ·have hX:=hf3 (h1 g0 (.inl g1))
  simp (disch:=first|assumption|omega|(simp only [List.length_append,List.length_cons,List.length_nil];omega)) only [go_sem,reduceCtorEq,Nat.reduceEqDiff,Nat.reduceAdd,Nat.reduceSub,Nat.reduceMul,Nat.reduceLeDiff,Int.reduceLT,Int.reduceLE,Int.reduceEq,↓reduceIte,Int.reduceNeg,Int.reduceAdd,Int.reduceSub,Int.reduceMul,true_imp_iff,forall_const,Nat.mul_one,Int.reduceToNat,Nat.reducePow,Int.reducePow,Bool.true_and,Bool.false_and,Bool.and_false,g0,g1,←hF]
  refine hX.use ?_
  simp (disch:=first|assumption|omega|(simp only [List.length_append,List.length_cons,List.length_nil];omega)) only [go_sem,reduceCtorEq,Nat.reduceEqDiff,Nat.reduceAdd,Nat.reduceSub,Nat.reduceMul,Nat.reduceLeDiff,Int.reduceLT,Int.reduceLE,Int.reduceEq,↓reduceIte,Int.reduceNeg,Int.reduceAdd,Int.reduceSub,Int.reduceMul,true_imp_iff,forall_const,Nat.mul_one,Int.reduceToNat,Nat.reducePow,Int.reducePow,Bool.true_and,Bool.false_and,Bool.and_false,ASt.set_set,←hF]
  exact retC_by (by repeat' (first|exact Drop.refl _|with_reducible refine Drop.off ?_ (by assumption))) (.refl _) ⟨rfl,rfl⟩
 by_cases g2:most<L.length
 ·have hX:=hf3 (h1 g0 (.inr g2))
  simp (disch:=first|assumption|omega|(simp only [List.length_append,List.length_cons,List.length_nil];omega)) only [go_sem,reduceCtorEq,Nat.reduceEqDiff,Nat.reduceAdd,Nat.reduceSub,Nat.reduceMul,Nat.reduceLeDiff,Int.reduceLT,Int.reduceLE,Int.reduceEq,↓reduceIte,Int.reduceNeg,Int.reduceAdd,Int.reduceSub,Int.reduceMul,true_imp_iff,forall_const,Nat.mul_one,Int.reduceToNat,Nat.reducePow,Int.reducePow,Bool.true_and,Bool.false_and,Bool.and_false,g0,g1,g2,←hF]
  refine hX.use ?_
  simp (disch:=first|assumption|omega|(simp only [List.length_append,List.length_cons,List.length_nil];omega)) only [go_sem,reduceCtorEq,Nat.reduceEqDiff,Nat.reduceAdd,Nat.reduceSub,Nat.reduceMul,Nat.reduceLeDiff,Int.reduceLT,Int.reduceLE,Int.reduceEq,↓reduceIte,Int.reduceNeg,Int.reduceAdd,Int.reduceSub,Int.reduceMul,true_imp_iff,forall_const,Nat.mul_one,Int.reduceToNat,Nat.reducePow,Int.reducePow,Bool.true_and,Bool.false_and,Bool.and_false,ASt.set_set,←hF]
  exact retC_by (by repeat' (first|exact Drop.refl _|with_reducible refine Drop.off ?_ (by assumption))) (.refl _) ⟨rfl,rfl⟩
 obtain ⟨W,hW⟩:∃ W,numsA [] L=W:=⟨_,rfl⟩
 obtain ⟨τ,hτ⟩:∃ τ,σ.set c (some (.obj [.int .i64 0,.int .i64 0,.str []]))=τ:=⟨_,rfl⟩
 have hDτ:Drop τ σ:=hτ▸Drop.set hc
 have hτc:τ c=some (.obj [.int .i64 0,.int .i64 0,.str []]):=by rw [<-hτ,ASt.set_same]
 simp (disch:=first|assumption|omega|(simp only [List.length_append,List.length_cons,List.length_nil];omega)) only [go_sem,reduceCtorEq,Nat.reduceEqDiff,Nat.reduceAdd,Nat.reduceSub,Nat.reduceMul,Nat.reduceLeDiff,Int.reduceLT,Int.reduceLE,Int.reduceEq,↓reduceIte,Int.reduceNeg,Int.reduceAdd,Int.reduceSub,Int.reduceMul,true_imp_iff,forall_const,Nat.mul_one,Int.reduceToNat,Nat.reducePow,Int.reducePow,Bool.true_and,Bool.false_and,Bool.and_false,g0,g1,g2,hτ,←hF]
 refine wp_loop_by (fun (i:Nat) a σ'=>i<=L.length/\(a 0 = .str s/\a 4 = .ptr c 0/\a 37 = .sl .shr (L.map tellAV)/\a 38 = .int .i64 L.length/\a 39 = .int .i64 i)/\∃ (acc:List Int) (k:SK),W=numsA acc (L.drop i)/\acc.length=i/\a 7 = .sl k (acc.map (AV.int .i64))/\Grown τ σ' k (acc.map (AV.int .i64)).length 1)
  (fun i=>L.length-i) 0 (Dr.now ⟨Nat.zero_le _,?_,[],.full,hW.symm,rfl,?_,.inl ⟨rfl,by simp,rfl⟩⟩) ?_
 ·simp (disch:=first|assumption|omega|(simp only [List.length_append,List.length_cons,List.length_nil];omega)) only [go_sem,reduceCtorEq,Nat.reduceEqDiff,Nat.reduceAdd,Nat.reduceSub,Nat.reduceMul,Nat.reduceLeDiff,Int.reduceLT,Int.reduceLE,Int.reduceEq,↓reduceIte,Int.reduceNeg,Int.reduceAdd,Int.reduceSub,Int.reduceMul,true_imp_iff,forall_const,Nat.mul_one,Int.reduceToNat,Nat.reducePow,Int.reducePow,Bool.true_and,Bool.false_and,Bool.and_false]
 ·simp (disch:=first|assumption|omega|(simp only [List.length_append,List.length_cons,List.length_nil];omega)) only [go_sem,reduceCtorEq,Nat.reduceEqDiff,Nat.reduceAdd,Nat.reduceSub,Nat.reduceMul,Nat.reduceLeDiff,Int.reduceLT,Int.reduceLE,Int.reduceEq,↓reduceIte,Int.reduceNeg,Int.reduceAdd,Int.reduceSub,Int.reduceMul,true_imp_iff,forall_const,Nat.mul_one,Int.reduceToNat,Nat.reducePow,Int.reducePow,Bool.true_and,Bool.false_and,Bool.and_false]
 rintro i a σ1 ⟨hi,hf,acc,k,hA,hl,h7,hgr⟩
 have hσ1c:=hgr.at hτc
 by_cases hlt:i<L.length
 ·have hlt':(i:Int)<L.length:=by omega
  have hx : L[i]? = some (L[i]'hlt) := List.getElem?_eq_getElem hlt
  rw [List.drop_eq_getElem_cons hlt] at hA
  have hsm:=hs _ (List.getElem_mem hlt)
  have hgd:=hg _ (List.getElem_mem hlt)
  obtain ⟨v, hv⟩ : ∃ v, L[i]'hlt = v := ⟨_, rfl⟩
  rw [hv] at hx hA hsm hgd
  have hmx:=tell_get hx
  have hN:=r15asnumber_ok v hsm (fun n e=>by have:=hgd.2.2.2 n e;omega)
  obtain ⟨y1,y2,y3,hy⟩:=tell_agg v
  rw [hy] at hmx hN
  rw [numsA] at hA
  have hfb:0<=(asNum v).2/\(asNum v).2<=7:=⟨hgd.2.1,hgd.2.2.1⟩
  obtain ⟨n,hne⟩:∃ n,(asNum v).1=n:=⟨_,rfl⟩
  obtain ⟨f,hfe⟩:∃ f,(asNum v).2=f:=⟨_,rfl⟩
  rw [hne,hfe] at hA hN
  rw [hfe] at hfb
  simp (disch:=first|assumption|omega|(simp only [List.length_append,List.length_cons,List.length_nil];omega)) only [go_sem,reduceCtorEq,Nat.reduceEqDiff,Nat.reduceAdd,Nat.reduceSub,Nat.reduceMul,Nat.reduceLeDiff,Int.reduceLT,Int.reduceLE,Int.reduceEq,↓reduceIte,Int.reduceNeg,Int.reduceAdd,Int.reduceSub,Int.reduceMul,true_imp_iff,forall_const,Nat.mul_one,Int.reduceToNat,Nat.reducePow,Int.reducePow,Bool.true_and,Bool.false_and,Bool.and_false,hf,h7,hlt',hmx,←hF]
  refine allocC_by fun d hd=>?_
  obtain ⟨hga,hd0⟩:=hgr.upon hd (q := .obj [.int .i64 y1,.int .i64 y2,.str y3])
  have hdc:d≠c:=fun e=>by rw [e,hσ1c] at hd;cases hd
  have hcd:c≠d:=fun e=>hdc e.symm
  have hσ3:(σ1.set d (some (.obj [.int .i64 y1,.int .i64 y2,.str y3]))) c=some (.obj [.int .i64 0,.int .i64 0,.str []]):=by rw [ASt.set_ne hcd];exact hσ1c
  simp (disch:=first|assumption|omega|(simp only [List.length_append,List.length_cons,List.length_nil];omega)) only [go_sem,reduceCtorEq,Nat.reduceEqDiff,Nat.reduceAdd,Nat.reduceSub,Nat.reduceMul,Nat.reduceLeDiff,Int.reduceLT,Int.reduceLE,Int.reduceEq,↓reduceIte,Int.reduceNeg,Int.reduceAdd,Int.reduceSub,Int.reduceMul,true_imp_iff,forall_const,Nat.mul_one,Int.reduceToNat,Nat.reducePow,Int.reducePow,Bool.true_and,Bool.false_and,Bool.and_false,hf,h7,ASt.set_set,←hF]
  refine hN.use ?_
  by_cases hf0:f=0
  ·subst hf0
   rw [if_pos rfl] at hA
   simp (disch:=first|assumption|omega|(simp only [List.length_append,List.length_cons,List.length_nil];omega)) only [go_sem,reduceCtorEq,Nat.reduceEqDiff,Nat.reduceAdd,Nat.reduceSub,Nat.reduceMul,Nat.reduceLeDiff,Int.reduceLT,Int.reduceLE,Int.reduceEq,↓reduceIte,Int.reduceNeg,Int.reduceAdd,Int.reduceSub,Int.reduceMul,true_imp_iff,forall_const,Nat.mul_one,Int.reduceToNat,Nat.reducePow,Int.reducePow,Bool.true_and,Bool.false_and,Bool.and_false,hf,h7,←hF]
   refine appC_by hga rfl rfl (by simp;omega) (by simp;omega) fun k' σ' hg'=>?_
   have hap:acc.map (AV.int .i64) ++ [AV.int .i64 n]=(acc ++ [n]).map (AV.int .i64):=by simp
   rw [hap] at hg' ⊢
   obtain ⟨σ2,hd2,hg2⟩:=hg'.off hd0
   simp (disch:=first|assumption|omega|(simp only [List.length_append,List.length_cons,List.length_nil];omega)) only [go_sem,reduceCtorEq,Nat.reduceEqDiff,Nat.reduceAdd,Nat.reduceSub,Nat.reduceMul,Nat.reduceLeDiff,Int.reduceLT,Int.reduceLE,Int.reduceEq,↓reduceIte,Int.reduceNeg,Int.reduceAdd,Int.reduceSub,Int.reduceMul,true_imp_iff,forall_const,Nat.mul_one,Int.reduceToNat,Nat.reducePow,Int.reducePow,Bool.true_and,Bool.false_and,Bool.and_false,hf,←hF]
   refine ⟨i+1,by dsimp only;omega,Dr.drop hd2 ⟨by omega,?_,acc ++ [n],k',hA,by simp;omega,?_,by simpa using hg2⟩⟩
   ·simp (disch:=first|assumption|omega|(simp only [List.length_append,List.length_cons,List.length_nil];omega)) only [go_sem,reduceCtorEq,Nat.reduceEqDiff,Nat.reduceAdd,Nat.reduceSub,Nat.reduceMul,Nat.reduceLeDiff,Int.reduceLT,Int.reduceLE,Int.reduceEq,↓reduceIte,Int.reduceNeg,Int.reduceAdd,Int.reduceSub,Int.reduceMul,true_imp_iff,forall_const,Nat.mul_one,Int.reduceToNat,Nat.reducePow,Int.reducePow,Bool.true_and,Bool.false_and,Bool.and_false,hf]
   ·rfl
  ·rw [if_neg hf0] at hA
   subst hA
   obtain ⟨_,hR⟩:=h2 f g0 (by omega) (by omega) hW
   have hX:=hff f hfb.1 hfb.2 hR
   simp (disch:=first|assumption|omega|(simp only [List.length_append,List.length_cons,List.length_nil];omega)) only [go_sem,reduceCtorEq,Nat.reduceEqDiff,Nat.reduceAdd,Nat.reduceSub,Nat.reduceMul,Nat.reduceLeDiff,Int.reduceLT,Int.reduceLE,Int.reduceEq,↓reduceIte,Int.reduceNeg,Int.reduceAdd,Int.reduceSub,Int.reduceMul,true_imp_iff,forall_const,Nat.mul_one,Int.reduceToNat,Nat.reducePow,Int.reducePow,Bool.true_and,Bool.false_and,Bool.and_false,hf,hf0,←hF]
   refine hX.use ?_
   simp (disch:=first|assumption|omega|(simp only [List.length_append,List.length_cons,List.length_nil];omega)) only [go_sem,reduceCtorEq,Nat.reduceEqDiff,Nat.reduceAdd,Nat.reduceSub,Nat.reduceMul,Nat.reduceLeDiff,Int.reduceLT,Int.reduceLE,Int.reduceEq,↓reduceIte,Int.reduceNeg,Int.reduceAdd,Int.reduceSub,Int.reduceMul,true_imp_iff,forall_const,Nat.mul_one,Int.reduceToNat,Nat.reducePow,Int.reducePow,Bool.true_and,Bool.false_and,Bool.and_false,hf,hσ3,←hF]
   refine retC_by ?_ (.refl _) ⟨rfl,rfl⟩
   refine Drop.over ?_ hc
   exact ((hgr.drop.trans hDτ).over (hDτ.noneM hd0))
 ·have hlt':¬ (i:Int)<L.length:=by omega
  rw [List.drop_eq_nil_of_le (by omega),numsA] at hA
  subst hA
  simp (disch:=first|assumption|omega|(simp only [List.length_append,List.length_cons,List.length_nil];omega)) only [go_sem,reduceCtorEq,Nat.reduceEqDiff,Nat.reduceAdd,Nat.reduceSub,Nat.reduceMul,Nat.reduceLeDiff,Int.reduceLT,Int.reduceLE,Int.reduceEq,↓reduceIte,Int.reduceNeg,Int.reduceAdd,Int.reduceSub,Int.reduceMul,true_imp_iff,forall_const,Nat.mul_one,Int.reduceToNat,Nat.reducePow,Int.reducePow,Bool.true_and,Bool.false_and,Bool.and_false,hf,h7,hlt',←hF]
  refine h3 acc g0 (by omega) (by omega) hW c k σ1 hσ1c (fun X=>(hgr.drop.trans hDτ).over hc) _ ?_
  simp (disch:=first|assumption|omega|(simp only [List.length_append,List.length_cons,List.length_nil];omega)) only [go_sem,reduceCtorEq,Nat.reduceEqDiff,Nat.reduceAdd,Nat.reduceSub,Nat.reduceMul,Nat.reduceLeDiff,Int.reduceLT,Int.reduceLE,Int.reduceEq,↓reduceIte,Int.reduceNeg,Int.reduceAdd,Int.reduceSub,Int.reduceMul,true_imp_iff,forall_const,Nat.mul_one,Int.reduceToNat,Nat.reducePow,Int.reducePow,Bool.true_and,Bool.false_and,Bool.and_false,hf,h7]
set_option maxHeartbeats 1000000 in
theorem calls_both {σ:ASt} (hT:Tens σ) (s:List UInt8) (L:List PV) (hn:L.length<=100) (hs:∀ v∈L,v.small) (hg:∀ v∈L,goodNum v) :
  ∃ R:PV,ACalls Tryz.prog 10 [.str s,.sl .shr (L.map argAV)] σ (fun v σ'=>v=R.av/\σ'=σ)/\ACalls Tryz.prog 12 [.str s,.sl .shr (L.map tellAV)] σ (fun v σ'=>v=tellAV R/\σ'=σ):=by
 by_cases h0:(limP s).2=0
 ·exact ⟨.fail 6,call_ofS s L _ (by omega) hs (fun _=>rfl) (fun h=>absurd h0 h) (fun _ h=>absurd h0 h) (fun _ h=>absurd h0 h),rcall_of s L _ (by omega) hs hg (fun _=>rfl) (fun h=>absurd h0 h) (fun _ h=>absurd h0 h) (fun _ h=>absurd h0 h)⟩
 by_cases h1:(L.length:Int)<(limP s).1\/(limP s).2<L.length
 ·exact ⟨.fail 3,call_ofS s L _ (by omega) hs (fun h=>absurd h h0) (fun _ _=>rfl) (fun _ _ h2 h3=>absurd h1 (by omega)) (fun _ _ h2 h3=>absurd h1 (by omega)),rcall_of s L _ (by omega) hs hg (fun h=>absurd h h0) (fun _ _=>rfl) (fun _ _ h2 h3=>absurd h1 (by omega)) (fun _ _ h2 h3=>absurd h1 (by omega))⟩
 cases hN:numsA [] L with
 | inr f=>
   have hf:=numsA_inr hg hN
   exact ⟨.fail f,call_ofS s L _ (by omega) hs (fun h=>absurd h h0) (fun _ h=>absurd h h1) (fun f' _ _ _ h=>by rw [hN] at h;injection h with h;subst h;exact ⟨hf.1,rfl⟩) (fun N _ _ _ h=>by rw [hN] at h;cases h),rcall_of s L _ (by omega) hs hg (fun h=>absurd h h0) (fun _ h=>absurd h h1) (fun f' _ _ _ h=>by rw [hN] at h;injection h with h;subst h;exact ⟨hf.1,rfl⟩) (fun N _ _ _ h=>by rw [hN] at h;cases h)⟩
 | inl N=>
   obtain ⟨hlen,hNb⟩:=numsA_inl hg hN
   have key:∀ R:PV,(∀ a1:AFr,(a1 0 = .str s/\a1 7 = .sl .shr (N.map (AV.int .i64)))->ACode.wp Tryz.prog c10_123 (RetQ [.t 4] fun v σ'=>v=R.av/\σ'=σ) a1 σ) →
     (∀ (c:Nat) (k:SK) (σ2:ASt),σ2 c=some (.obj [.int .i64 0,.int .i64 0,.str []])->(∀ X,Drop (σ2.set c X) σ)->∀ a1:AFr,(a1 0 = .str s/\a1 4 = .ptr c 0/\a1 7 = .sl k (N.map (AV.int .i64)))->ACode.wp Tryz.prog c12_224 (RetQ [.c 4 (some 3)] fun v σ'=>v=tellAV R/\σ'=σ) a1 σ2) →
     ∃ R:PV,ACalls Tryz.prog 10 [.str s,.sl .shr (L.map argAV)] σ (fun v σ'=>v=R.av/\σ'=σ)/\ACalls Tryz.prog 12 [.str s,.sl .shr (L.map tellAV)] σ (fun v σ'=>v=tellAV R/\σ'=σ):=by
    intro R k1 k2
    exact ⟨R,call_ofS s L R (by omega) hs (fun h=>absurd h h0) (fun _ h=>absurd h h1) (fun f' _ _ _ h=>by rw [hN] at h;cases h) (fun N' _ _ _ h=>by rw [hN] at h;injection h with h;subst h;exact k1),rcall_of s L R (by omega) hs hg (fun h=>absurd h h0) (fun _ h=>absurd h h1) (fun f' _ _ _ h=>by rw [hN] at h;cases h) (fun N' _ _ _ h=>by rw [hN] at h;injection h with h;subst h;exact k2)⟩
   have hm:s∈nms:=Classical.byContradiction fun h=>h0 (by rw [limP_no fun j _ hj=>h (List.mem_of_getElem? hj)])
   simp only [nms,List.mem_cons,List.not_mem_nil,or_false] at hm
   rcases hm with rfl|rfl|rfl|rfl|rfl|rfl|rfl|rfl|rfl|rfl|rfl|rfl|rfl|rfl|rfl|rfl|rfl|rfl|rfl|rfl
   ·rw [show limP sABS=(1,1) by decide] at h0 h1
    dsimp only at h0 h1
    obtain ⟨a,T,rfl⟩:∃ a T,N=a::T:=by
     cases N with
     | nil=>simp at hlen;omega
     | cons a T=>exact ⟨a,T,rfl⟩
    simp only [List.length_cons] at hlen
    have ha:=hNb a (by simp)
    exact key _ (mk_ABS hT (by omega) ha (sec_b hNb (by decide)) (sec_b hNb (by decide))) (fun c k σ2 hσ hD=>rk_ABS hσ hD (by omega) ha (sec_b hNb (by decide)) (sec_b hNb (by decide)))
   ·rw [show limP sSIGN=(1,1) by decide] at h0 h1
    dsimp only at h0 h1
    obtain ⟨a,T,rfl⟩:∃ a T,N=a::T:=by
     cases N with
     | nil=>simp at hlen;omega
     | cons a T=>exact ⟨a,T,rfl⟩
    simp only [List.length_cons] at hlen
    have ha:=hNb a (by simp)
    exact key _ (mk_SIGN hT (by omega) ha (sec_b hNb (by decide)) (sec_b hNb (by decide))) (fun c k σ2 hσ hD=>rk_SIGN hσ hD (by omega) ha (sec_b hNb (by decide)) (sec_b hNb (by decide)))
   ·rw [show limP sINT=(1,1) by decide] at h0 h1
    dsimp only at h0 h1
    obtain ⟨a,T,rfl⟩:∃ a T,N=a::T:=by
     cases N with
     | nil=>simp at hlen;omega
     | cons a T=>exact ⟨a,T,rfl⟩
    simp only [List.length_cons] at hlen
    have ha:=hNb a (by simp)
    exact key _ (mk_INT hT (by omega) ha (sec_b hNb (by decide)) (sec_b hNb (by decide))) (fun c k σ2 hσ hD=>rk_INT hσ hD (by omega) ha (sec_b hNb (by decide)) (sec_b hNb (by decide)))
   ·rw [show limP sSQRT=(1,1) by decide] at h0 h1
    dsimp only at h0 h1
    obtain ⟨a,T,rfl⟩:∃ a T,N=a::T:=by
     cases N with
     | nil=>simp at hlen;omega
     | cons a T=>exact ⟨a,T,rfl⟩
    simp only [List.length_cons] at hlen
    have ha:=hNb a (by simp)
    exact key _ (mk_SQRT hT (by omega) ha (sec_b hNb (by decide)) (sec_b hNb (by decide))) (fun c k σ2 hσ hD=>rk_SQRT hσ hD (by omega) ha (sec_b hNb (by decide)) (sec_b hNb (by decide)))
   ·rw [show limP sFACT=(1,1) by decide] at h0 h1
    dsimp only at h0 h1
    obtain ⟨a,T,rfl⟩:∃ a T,N=a::T:=by
     cases N with
     | nil=>simp at hlen;omega
     | cons a T=>exact ⟨a,T,rfl⟩
    simp only [List.length_cons] at hlen
    have ha:=hNb a (by simp)
    exact key _ (mk_FACT hT (by omega) ha (sec_b hNb (by decide)) (sec_b hNb (by decide))) (fun c k σ2 hσ hD=>rk_FACT hσ hD (by omega) ha (sec_b hNb (by decide)) (sec_b hNb (by decide)))
   ·rw [show limP sEVEN=(1,1) by decide] at h0 h1
    dsimp only at h0 h1
    obtain ⟨a,T,rfl⟩:∃ a T,N=a::T:=by
     cases N with
     | nil=>simp at hlen;omega
     | cons a T=>exact ⟨a,T,rfl⟩
    simp only [List.length_cons] at hlen
    have ha:=hNb a (by simp)
    exact key _ (mk_EVEN hT (by omega) ha (sec_b hNb (by decide)) (sec_b hNb (by decide))) (fun c k σ2 hσ hD=>rk_EVEN hσ hD (by omega) ha (sec_b hNb (by decide)) (sec_b hNb (by decide)))
   ·rw [show limP sODD=(1,1) by decide] at h0 h1
    dsimp only at h0 h1
    obtain ⟨a,T,rfl⟩:∃ a T,N=a::T:=by
     cases N with
     | nil=>simp at hlen;omega
     | cons a T=>exact ⟨a,T,rfl⟩
    simp only [List.length_cons] at hlen
    have ha:=hNb a (by simp)
    exact key _ (mk_ODD hT (by omega) ha (sec_b hNb (by decide)) (sec_b hNb (by decide))) (fun c k σ2 hσ hD=>rk_ODD hσ hD (by omega) ha (sec_b hNb (by decide)) (sec_b hNb (by decide)))
   ·rw [show limP sTRUNC=(1,2) by decide] at h0 h1
    dsimp only at h0 h1
    obtain ⟨a,T,rfl⟩:∃ a T,N=a::T:=by
     cases N with
     | nil=>simp at hlen;omega
     | cons a T=>exact ⟨a,T,rfl⟩
    simp only [List.length_cons] at hlen
    have ha:=hNb a (by simp)
    exact key _ (mk_TRUNC hT (by omega) ha (sec_b hNb (by decide)) (sec_b hNb (by decide))) (fun c k σ2 hσ hD=>rk_TRUNC hσ hD (by omega) ha (sec_b hNb (by decide)) (sec_b hNb (by decide)))
   ·rw [show limP sFLOOR=(1,2) by decide] at h0 h1
    dsimp only at h0 h1
    obtain ⟨a,T,rfl⟩:∃ a T,N=a::T:=by
     cases N with
     | nil=>simp at hlen;omega
     | cons a T=>exact ⟨a,T,rfl⟩
    simp only [List.length_cons] at hlen
    have ha:=hNb a (by simp)
    exact key _ (mk_FLOOR hT (by omega) ha (sec_b hNb (by decide)) (sec_b hNb (by decide))) (fun c k σ2 hσ hD=>rk_FLOOR hσ hD (by omega) ha (sec_b hNb (by decide)) (sec_b hNb (by decide)))
   ·rw [show limP sCEIL=(1,2) by decide] at h0 h1
    dsimp only at h0 h1
    obtain ⟨a,T,rfl⟩:∃ a T,N=a::T:=by
     cases N with
     | nil=>simp at hlen;omega
     | cons a T=>exact ⟨a,T,rfl⟩
    simp only [List.length_cons] at hlen
    have ha:=hNb a (by simp)
    exact key _ (mk_CEIL hT (by omega) ha (sec_b hNb (by decide)) (sec_b hNb (by decide))) (fun c k σ2 hσ hD=>rk_CEIL hσ hD (by omega) ha (sec_b hNb (by decide)) (sec_b hNb (by decide)))
   ·rw [show limP sROUND=(1,2) by decide] at h0 h1
    dsimp only at h0 h1
    obtain ⟨a,T,rfl⟩:∃ a T,N=a::T:=by
     cases N with
     | nil=>simp at hlen;omega
     | cons a T=>exact ⟨a,T,rfl⟩
    simp only [List.length_cons] at hlen
    have ha:=hNb a (by simp)
    exact key _ (mk_ROUND hT (by omega) ha (sec_b hNb (by decide)) (sec_b hNb (by decide))) (fun c k σ2 hσ hD=>rk_ROUND hσ hD (by omega) ha (sec_b hNb (by decide)) (sec_b hNb (by decide)))
   ·rw [show limP sUP=(1,2) by decide] at h0 h1
    dsimp only at h0 h1
    obtain ⟨a,T,rfl⟩:∃ a T,N=a::T:=by
     cases N with
     | nil=>simp at hlen;omega
     | cons a T=>exact ⟨a,T,rfl⟩
    simp only [List.length_cons] at hlen
    have ha:=hNb a (by simp)
    exact key _ (mk_UP hT (by omega) ha (sec_b hNb (by decide)) (sec_b hNb (by decide))) (fun c k σ2 hσ hD=>rk_UP hσ hD (by omega) ha (sec_b hNb (by decide)) (sec_b hNb (by decide)))
   ·rw [show limP sDOWN=(1,2) by decide] at h0 h1
    dsimp only at h0 h1
    obtain ⟨a,T,rfl⟩:∃ a T,N=a::T:=by
     cases N with
     | nil=>simp at hlen;omega
     | cons a T=>exact ⟨a,T,rfl⟩
    simp only [List.length_cons] at hlen
    have ha:=hNb a (by simp)
    exact key _ (mk_DOWN hT (by omega) ha (sec_b hNb (by decide)) (sec_b hNb (by decide))) (fun c k σ2 hσ hD=>rk_DOWN hσ hD (by omega) ha (sec_b hNb (by decide)) (sec_b hNb (by decide)))
   ·rw [show limP sMROUND=(2,2) by decide] at h0 h1
    dsimp only at h0 h1
    obtain ⟨a,b,rfl⟩:=two_of (N:=N) (by omega)
    have ha:=hNb a (by simp)
    have hb:=hNb b (by simp)
    exact key _ (mk_MROUND hT ha hb) (fun c k σ2 hσ hD=>rk_MROUND hσ hD ha hb)
   ·rw [show limP sMOD=(2,2) by decide] at h0 h1
    dsimp only at h0 h1
    obtain ⟨a,b,rfl⟩:=two_of (N:=N) (by omega)
    have ha:=hNb a (by simp)
    have hb:=hNb b (by simp)
    exact key _ (mk_MOD hT ha hb) (fun c k σ2 hσ hD=>rk_MOD hσ hD ha hb)
   ·rw [show limP sQUOT=(2,2) by decide] at h0 h1
    dsimp only at h0 h1
    obtain ⟨a,b,rfl⟩:=two_of (N:=N) (by omega)
    have ha:=hNb a (by simp)
    have hb:=hNb b (by simp)
    exact key _ (mk_QUOT hT ha hb) (fun c k σ2 hσ hD=>rk_QUOT hσ hD ha hb)
   ·rw [show limP sPOWER=(2,2) by decide] at h0 h1
    dsimp only at h0 h1
    obtain ⟨a,b,rfl⟩:=two_of (N:=N) (by omega)
    have ha:=hNb a (by simp)
    have hb:=hNb b (by simp)
    exact key _ (mk_POWER hT ha hb) (fun c k σ2 hσ hD=>rk_POWER hσ hD ha hb)
   ·rw [show limP sCLAMP=(3,3) by decide] at h0 h1
    dsimp only at h0 h1
    obtain ⟨a,b,d,rfl⟩:=three_of (N:=N) (by omega)
    exact key _ (mk_CLAMP hT) (fun c k σ2 hσ hD=>rk_CLAMP hσ hD (hNb b (by simp)))
   ·rw [show limP sGCD=(1,30) by decide] at h0 h1
    dsimp only at h0 h1
    exact key _ (mk_GCD hT (by omega) (by omega) hNb) (fun c k σ2 hσ hD=>rk_GCD hσ hD (by omega) (by omega) hNb)
   ·rw [show limP sLCM=(1,30) by decide] at h0 h1
    dsimp only at h0 h1
    exact key _ (mk_LCM hT (by omega) (by omega) hNb) (fun c k σ2 hσ hD=>rk_LCM hσ hD (by omega) (by omega) hNb)
set_option maxHeartbeats 1000000 in
theorem told16_ok {σ:ASt} (h:U8 σ) (L:List Pl) (hn:L.length<=100000):ACalls Tryz.prog 13 [.sl .shr (L.map plAV)] σ fun v σ'=>v = .sl .shr ((argsP L).map tellAV)/\σ'=σ:=by
 have hAr:=args_ok h L hn
 have hlen:(argsP L).length<=100000:=by simp [argsP];omega
 generalize argsP L=P at *
 refine a13 (by simp) ?_
 obtain ⟨F,hF⟩:∃ F,F=ACode.wp Tryz.prog c13_17:=⟨_,rfl⟩
 simp (disch:=first|assumption|omega|(simp only [List.length_append,List.length_cons,List.length_nil];omega)) only [go_sem,reduceCtorEq,Nat.reduceEqDiff,Nat.reduceAdd,Nat.reduceSub,Nat.reduceMul,Nat.reduceLeDiff,Int.reduceLT,Int.reduceLE,Int.reduceEq,↓reduceIte,Int.reduceNeg,Int.reduceAdd,Int.reduceSub,Int.reduceMul,true_imp_iff,forall_const,Nat.mul_one,Int.reduceToNat,Nat.reducePow,Int.reducePow,Bool.true_and,Bool.false_and,Bool.and_false,←hF]
 refine hAr.mono ?_
 rintro v σ' ⟨rfl,rfl⟩
 simp (disch:=first|assumption|omega|(simp only [List.length_append,List.length_cons,List.length_nil];omega)) only [go_sem,reduceCtorEq,Nat.reduceEqDiff,Nat.reduceAdd,Nat.reduceSub,Nat.reduceMul,Nat.reduceLeDiff,Int.reduceLT,Int.reduceLE,Int.reduceEq,↓reduceIte,Int.reduceNeg,Int.reduceAdd,Int.reduceSub,Int.reduceMul,true_imp_iff,forall_const,Nat.mul_one,Int.reduceToNat,Nat.reducePow,Int.reducePow,Bool.true_and,Bool.false_and,Bool.and_false,←hF]
 refine wp_loop_by (fun (i:Nat) a s2=>i<=P.length/\(a 8 = .sl .shr (P.map argAV)/\a 9 = .int .i64 P.length/\a 10 = .int .i64 i)/\∃ k,a 3 = .sl k ((P.take i).map tellAV)/\Grown σ' s2 k ((P.take i).map tellAV).length 3)
  (fun i=>P.length-i) 0 (Dr.now ⟨Nat.zero_le _,?_,.full,?_,.inl ⟨rfl,by simp,rfl⟩⟩) ?_
 ·simp (disch:=first|assumption|omega|(simp only [List.length_append,List.length_cons,List.length_nil];omega)) only [go_sem,reduceCtorEq,Nat.reduceEqDiff,Nat.reduceAdd,Nat.reduceSub,Nat.reduceMul,Nat.reduceLeDiff,Int.reduceLT,Int.reduceLE,Int.reduceEq,↓reduceIte,Int.reduceNeg,Int.reduceAdd,Int.reduceSub,Int.reduceMul,true_imp_iff,forall_const,Nat.mul_one,Int.reduceToNat,Nat.reducePow,Int.reducePow,Bool.true_and,Bool.false_and,Bool.and_false]
 ·simp (disch:=first|assumption|omega|(simp only [List.length_append,List.length_cons,List.length_nil];omega)) only [go_sem,reduceCtorEq,Nat.reduceEqDiff,Nat.reduceAdd,Nat.reduceSub,Nat.reduceMul,Nat.reduceLeDiff,Int.reduceLT,Int.reduceLE,Int.reduceEq,↓reduceIte,Int.reduceNeg,Int.reduceAdd,Int.reduceSub,Int.reduceMul,true_imp_iff,forall_const,Nat.mul_one,Int.reduceToNat,Nat.reducePow,Int.reducePow,Bool.true_and,Bool.false_and,Bool.and_false]
 rintro i a σ1 ⟨hi,hf,k,h3,hg⟩
 by_cases hlt:i<P.length
 ·have hlt':(i:Int)<P.length:=by omega
  have hx : P[i]? = some (P[i]'hlt) := List.getElem?_eq_getElem hlt
  obtain ⟨p, hp⟩ : ∃ p, P[i]'hlt = p := ⟨_, rfl⟩
  have hap:(P.take i).map tellAV ++ [tellAV p]=(P.take (i+1)).map tellAV:=by
   rw [List.take_succ_eq_append_getElem hlt,hp];simp
  rw [hp] at hx
  have hmx:=arg_get hx
  have hVa:=argval_ok p
  have hTo:=mtold_ok p
  obtain ⟨y1,y2,y3,hy⟩:=tell_agg p
  rw [hy] at hTo hap
  unfold argAV at hmx hVa
  obtain ⟨x,hxe⟩:∃ x,p.av=x:=⟨_,rfl⟩
  rw [hxe] at hmx hVa hTo
  have hl2:((P.take i).map tellAV).length<=100000:=by rw [List.length_map,List.length_take];omega
  generalize (P.take i).map tellAV=A at *
  unfold argAV at hf
  simp (disch:=first|assumption|omega|(simp only [List.length_append,List.length_cons,List.length_nil];omega)) only [go_sem,reduceCtorEq,Nat.reduceEqDiff,Nat.reduceAdd,Nat.reduceSub,Nat.reduceMul,Nat.reduceLeDiff,Int.reduceLT,Int.reduceLE,Int.reduceEq,↓reduceIte,Int.reduceNeg,Int.reduceAdd,Int.reduceSub,Int.reduceMul,true_imp_iff,forall_const,Nat.mul_one,Int.reduceToNat,Nat.reducePow,Int.reducePow,Bool.true_and,Bool.false_and,Bool.and_false,hf,h3,hlt',hmx,←hF]
  refine allocC_by fun c hc=>?_
  obtain ⟨hga,hc0⟩:=hg.upon hc (q := .obj [.int .i64 1,.int .i64 1,.bool false,.sl .full [x]])
  simp (disch:=first|assumption|omega|(simp only [List.length_append,List.length_cons,List.length_nil];omega)) only [go_sem,reduceCtorEq,Nat.reduceEqDiff,Nat.reduceAdd,Nat.reduceSub,Nat.reduceMul,Nat.reduceLeDiff,Int.reduceLT,Int.reduceLE,Int.reduceEq,↓reduceIte,Int.reduceNeg,Int.reduceAdd,Int.reduceSub,Int.reduceMul,true_imp_iff,forall_const,Nat.mul_one,Int.reduceToNat,Nat.reducePow,Int.reducePow,Bool.true_and,Bool.false_and,Bool.and_false,hf,h3,←hF]
  refine hVa.use ?_
  simp (disch:=first|assumption|omega|(simp only [List.length_append,List.length_cons,List.length_nil];omega)) only [go_sem,reduceCtorEq,Nat.reduceEqDiff,Nat.reduceAdd,Nat.reduceSub,Nat.reduceMul,Nat.reduceLeDiff,Int.reduceLT,Int.reduceLE,Int.reduceEq,↓reduceIte,Int.reduceNeg,Int.reduceAdd,Int.reduceSub,Int.reduceMul,true_imp_iff,forall_const,Nat.mul_one,Int.reduceToNat,Nat.reducePow,Int.reducePow,Bool.true_and,Bool.false_and,Bool.and_false,hf,h3,←hF]
  refine hTo.use ?_
  simp (disch:=first|assumption|omega|(simp only [List.length_append,List.length_cons,List.length_nil];omega)) only [go_sem,reduceCtorEq,Nat.reduceEqDiff,Nat.reduceAdd,Nat.reduceSub,Nat.reduceMul,Nat.reduceLeDiff,Int.reduceLT,Int.reduceLE,Int.reduceEq,↓reduceIte,Int.reduceNeg,Int.reduceAdd,Int.reduceSub,Int.reduceMul,true_imp_iff,forall_const,Nat.mul_one,Int.reduceToNat,Nat.reducePow,Int.reducePow,Bool.true_and,Bool.false_and,Bool.and_false,hf,h3,←hF]
  refine appC_by (bytes:=32) (ys := [.agg [.int .i64 y1,.int .i64 y2,.str y3]]) hga rfl rfl (by simp only [List.length_cons,List.length_nil];omega) (by simp only [List.length_cons,List.length_nil];omega) fun k' s3 hg'=>?_
  rw [hap] at hg' ⊢
  obtain ⟨s4,hd,hg2⟩:=hg'.off hc0
  simp (disch:=first|assumption|omega|(simp only [List.length_append,List.length_cons,List.length_nil];omega)) only [go_sem,reduceCtorEq,Nat.reduceEqDiff,Nat.reduceAdd,Nat.reduceSub,Nat.reduceMul,Nat.reduceLeDiff,Int.reduceLT,Int.reduceLE,Int.reduceEq,↓reduceIte,Int.reduceNeg,Int.reduceAdd,Int.reduceSub,Int.reduceMul,true_imp_iff,forall_const,Nat.mul_one,Int.reduceToNat,Nat.reducePow,Int.reducePow,Bool.true_and,Bool.false_and,Bool.and_false,hf,←hF]
  refine ⟨i+1,by dsimp only;omega,Dr.drop hd ⟨by omega,?_,k',?_,by simpa using hg2⟩⟩
  ·unfold argAV
   simp (disch:=first|assumption|omega|(simp only [List.length_append,List.length_cons,List.length_nil];omega)) only [go_sem,reduceCtorEq,Nat.reduceEqDiff,Nat.reduceAdd,Nat.reduceSub,Nat.reduceMul,Nat.reduceLeDiff,Int.reduceLT,Int.reduceLE,Int.reduceEq,↓reduceIte,Int.reduceNeg,Int.reduceAdd,Int.reduceSub,Int.reduceMul,true_imp_iff,forall_const,Nat.mul_one,Int.reduceToNat,Nat.reducePow,Int.reducePow,Bool.true_and,Bool.false_and,Bool.and_false,hf]
  ·rfl
 ·have hlt':¬ (i:Int)<P.length:=by omega
  have e:P.take i=P:=List.take_of_length_le (by omega)
  rw [e] at h3 hg
  simp (disch:=first|assumption|omega|(simp only [List.length_append,List.length_cons,List.length_nil];omega)) only [go_sem,reduceCtorEq,Nat.reduceEqDiff,Nat.reduceAdd,Nat.reduceSub,Nat.reduceMul,Nat.reduceLeDiff,Int.reduceLT,Int.reduceLE,Int.reduceEq,↓reduceIte,Int.reduceNeg,Int.reduceAdd,Int.reduceSub,Int.reduceMul,true_imp_iff,forall_const,Nat.mul_one,Int.reduceToNat,Nat.reducePow,Int.reducePow,Bool.true_and,Bool.false_and,Bool.and_false,hf,h3,hlt',←hF]
  rw [hF]
  simp (disch:=first|assumption|omega|(simp only [List.length_append,List.length_cons,List.length_nil];omega)) only [go_sem,reduceCtorEq,Nat.reduceEqDiff,Nat.reduceAdd,Nat.reduceSub,Nat.reduceMul,Nat.reduceLeDiff,Int.reduceLT,Int.reduceLE,Int.reduceEq,↓reduceIte,Int.reduceNeg,Int.reduceAdd,Int.reduceSub,Int.reduceMul,true_imp_iff,forall_const,Nat.mul_one,Int.reduceToNat,Nat.reducePow,Int.reducePow,Bool.true_and,Bool.false_and,Bool.and_false,h3]
  exact retC_by hg.drop (.sl _ _) ⟨rfl,rfl⟩
set_option maxHeartbeats 1000000 in
theorem MathsCalls_any {σ:ASt} (hU:U8 σ) (hT:Tens σ) (s0:List UInt8) (L0:List Pl) (hL0:L0.length<=9223372036854775807) :
  ACalls Tryz.prog 3 [.str s0,.sl .shr (L0.map plAV)] σ fun v σ'=>v = .bool true/\σ'=σ:=by
 have hC:=lcut_ok s0 12
 rw [show (((12:Nat)):Int)=12 from rfl] at hC
 have hF:=few_ok L0 32 hL0
 rw [show (((32:Nat)):Int)=32 from rfl] at hF
 have hLl:(L0.take 32).length<=32:=by rw [List.length_take];omega
 generalize L0.take 32=L at *
 generalize s0.take 12=s at *
 have hAw:=mawake_ok hU hT
 have hH1:=mhas_ok s
 have hH2:=rhas_ok s
 have hAr:=args_ok hU L (by omega)
 have hTo:=told16_ok hU L (by omega)
 obtain ⟨R,hR1,hR2⟩:=calls_both hT s (argsP L) (by simp [argsP];omega) (argsP_small L) (argsP_num L)
 have hTl:=mtold_ok R
 obtain ⟨y1,y2,y3,hy⟩:=tell_agg R
 rw [hy] at hTl hR2
 generalize argsP L=P at *
 generalize R.av=r at *
 generalize decide (0<(limP s).2)=b at *
 refine a3 (by simp) ?_
 simp (disch:=first|assumption|omega|(simp only [List.length_append,List.length_cons,List.length_nil];omega)) only [go_sem,reduceCtorEq,Nat.reduceEqDiff,Nat.reduceAdd,Nat.reduceSub,Nat.reduceMul,Nat.reduceLeDiff,Int.reduceLT,Int.reduceLE,Int.reduceEq,↓reduceIte,Int.reduceNeg,Int.reduceAdd,Int.reduceSub,Int.reduceMul,true_imp_iff,forall_const,Nat.mul_one,Int.reduceToNat,Nat.reducePow,Int.reducePow,Bool.true_and,Bool.false_and,Bool.and_false]
 refine hC.use ?_
 simp (disch:=first|assumption|omega|(simp only [List.length_append,List.length_cons,List.length_nil];omega)) only [go_sem,reduceCtorEq,Nat.reduceEqDiff,Nat.reduceAdd,Nat.reduceSub,Nat.reduceMul,Nat.reduceLeDiff,Int.reduceLT,Int.reduceLE,Int.reduceEq,↓reduceIte,Int.reduceNeg,Int.reduceAdd,Int.reduceSub,Int.reduceMul,true_imp_iff,forall_const,Nat.mul_one,Int.reduceToNat,Nat.reducePow,Int.reducePow,Bool.true_and,Bool.false_and,Bool.and_false]
 refine hF.use ?_
 simp (disch:=first|assumption|omega|(simp only [List.length_append,List.length_cons,List.length_nil];omega)) only [go_sem,reduceCtorEq,Nat.reduceEqDiff,Nat.reduceAdd,Nat.reduceSub,Nat.reduceMul,Nat.reduceLeDiff,Int.reduceLT,Int.reduceLE,Int.reduceEq,↓reduceIte,Int.reduceNeg,Int.reduceAdd,Int.reduceSub,Int.reduceMul,true_imp_iff,forall_const,Nat.mul_one,Int.reduceToNat,Nat.reducePow,Int.reducePow,Bool.true_and,Bool.false_and,Bool.and_false]
 refine hAw.mono ?_
 rintro v σ' ⟨rfl,rfl⟩
 simp (disch:=first|assumption|omega|(simp only [List.length_append,List.length_cons,List.length_nil];omega)) only [go_sem,reduceCtorEq,Nat.reduceEqDiff,Nat.reduceAdd,Nat.reduceSub,Nat.reduceMul,Nat.reduceLeDiff,Int.reduceLT,Int.reduceLE,Int.reduceEq,↓reduceIte,Int.reduceNeg,Int.reduceAdd,Int.reduceSub,Int.reduceMul,true_imp_iff,forall_const,Nat.mul_one,Int.reduceToNat,Nat.reducePow,Int.reducePow,Bool.true_and,Bool.false_and,Bool.and_false]
 refine hH1.use ?_
 simp (disch:=first|assumption|omega|(simp only [List.length_append,List.length_cons,List.length_nil];omega)) only [go_sem,reduceCtorEq,Nat.reduceEqDiff,Nat.reduceAdd,Nat.reduceSub,Nat.reduceMul,Nat.reduceLeDiff,Int.reduceLT,Int.reduceLE,Int.reduceEq,↓reduceIte,Int.reduceNeg,Int.reduceAdd,Int.reduceSub,Int.reduceMul,true_imp_iff,forall_const,Nat.mul_one,Int.reduceToNat,Nat.reducePow,Int.reducePow,Bool.true_and,Bool.false_and,Bool.and_false]
 refine hH2.use ?_
 simp (disch:=first|assumption|omega|(simp only [List.length_append,List.length_cons,List.length_nil];omega)) only [go_sem,reduceCtorEq,Nat.reduceEqDiff,Nat.reduceAdd,Nat.reduceSub,Nat.reduceMul,Nat.reduceLeDiff,Int.reduceLT,Int.reduceLE,Int.reduceEq,↓reduceIte,Int.reduceNeg,Int.reduceAdd,Int.reduceSub,Int.reduceMul,true_imp_iff,forall_const,Nat.mul_one,Int.reduceToNat,Nat.reducePow,Int.reducePow,Bool.true_and,Bool.false_and,Bool.and_false]
 refine ACalls.shr (by simp (disch:=first|assumption|omega|(simp only [List.length_append,List.length_cons,List.length_nil];omega)) only [go_sem,reduceCtorEq,Nat.reduceEqDiff,Nat.reduceAdd,Nat.reduceSub,Nat.reduceMul,Nat.reduceLeDiff,Int.reduceLT,Int.reduceLE,Int.reduceEq,↓reduceIte,Int.reduceNeg,Int.reduceAdd,Int.reduceSub,Int.reduceMul,true_imp_iff,forall_const,Nat.mul_one,Int.reduceToNat,Nat.reducePow,Int.reducePow,Bool.true_and,Bool.false_and,Bool.and_false]) (hAr.mono ?_)
 rintro v σ2 ⟨rfl,rfl⟩
 simp (disch:=first|assumption|omega|(simp only [List.length_append,List.length_cons,List.length_nil];omega)) only [go_sem,reduceCtorEq,Nat.reduceEqDiff,Nat.reduceAdd,Nat.reduceSub,Nat.reduceMul,Nat.reduceLeDiff,Int.reduceLT,Int.reduceLE,Int.reduceEq,↓reduceIte,Int.reduceNeg,Int.reduceAdd,Int.reduceSub,Int.reduceMul,true_imp_iff,forall_const,Nat.mul_one,Int.reduceToNat,Nat.reducePow,Int.reducePow,Bool.true_and,Bool.false_and,Bool.and_false]
 refine hR1.mono ?_
 rintro v σ3 ⟨rfl,rfl⟩
 simp (disch:=first|assumption|omega|(simp only [List.length_append,List.length_cons,List.length_nil];omega)) only [go_sem,reduceCtorEq,Nat.reduceEqDiff,Nat.reduceAdd,Nat.reduceSub,Nat.reduceMul,Nat.reduceLeDiff,Int.reduceLT,Int.reduceLE,Int.reduceEq,↓reduceIte,Int.reduceNeg,Int.reduceAdd,Int.reduceSub,Int.reduceMul,true_imp_iff,forall_const,Nat.mul_one,Int.reduceToNat,Nat.reducePow,Int.reducePow,Bool.true_and,Bool.false_and,Bool.and_false]
 refine hTl.use ?_
 simp (disch:=first|assumption|omega|(simp only [List.length_append,List.length_cons,List.length_nil];omega)) only [go_sem,reduceCtorEq,Nat.reduceEqDiff,Nat.reduceAdd,Nat.reduceSub,Nat.reduceMul,Nat.reduceLeDiff,Int.reduceLT,Int.reduceLE,Int.reduceEq,↓reduceIte,Int.reduceNeg,Int.reduceAdd,Int.reduceSub,Int.reduceMul,true_imp_iff,forall_const,Nat.mul_one,Int.reduceToNat,Nat.reducePow,Int.reducePow,Bool.true_and,Bool.false_and,Bool.and_false]
 refine ACalls.shr (by simp (disch:=first|assumption|omega|(simp only [List.length_append,List.length_cons,List.length_nil];omega)) only [go_sem,reduceCtorEq,Nat.reduceEqDiff,Nat.reduceAdd,Nat.reduceSub,Nat.reduceMul,Nat.reduceLeDiff,Int.reduceLT,Int.reduceLE,Int.reduceEq,↓reduceIte,Int.reduceNeg,Int.reduceAdd,Int.reduceSub,Int.reduceMul,true_imp_iff,forall_const,Nat.mul_one,Int.reduceToNat,Nat.reducePow,Int.reducePow,Bool.true_and,Bool.false_and,Bool.and_false]) (hTo.mono ?_)
 rintro v σ4 ⟨rfl,rfl⟩
 simp (disch:=first|assumption|omega|(simp only [List.length_append,List.length_cons,List.length_nil];omega)) only [go_sem,reduceCtorEq,Nat.reduceEqDiff,Nat.reduceAdd,Nat.reduceSub,Nat.reduceMul,Nat.reduceLeDiff,Int.reduceLT,Int.reduceLE,Int.reduceEq,↓reduceIte,Int.reduceNeg,Int.reduceAdd,Int.reduceSub,Int.reduceMul,true_imp_iff,forall_const,Nat.mul_one,Int.reduceToNat,Nat.reducePow,Int.reducePow,Bool.true_and,Bool.false_and,Bool.and_false]
 refine hR2.mono ?_
 rintro v σ5 ⟨rfl,rfl⟩
 simp (disch:=first|assumption|omega|(simp only [List.length_append,List.length_cons,List.length_nil];omega)) only [go_sem,reduceCtorEq,Nat.reduceEqDiff,Nat.reduceAdd,Nat.reduceSub,Nat.reduceMul,Nat.reduceLeDiff,Int.reduceLT,Int.reduceLE,Int.reduceEq,↓reduceIte,Int.reduceNeg,Int.reduceAdd,Int.reduceSub,Int.reduceMul,true_imp_iff,forall_const,Nat.mul_one,Int.reduceToNat,Nat.reducePow,Int.reducePow,Bool.true_and,Bool.false_and,Bool.and_false]
 exact retC_by (by repeat' (first|exact Drop.refl _|with_reducible refine Drop.off ?_ (by assumption))) (.refl _) ⟨rfl,rfl⟩
end Go.A
namespace Go.Proofs.YtpbiocfpbcpfkaaGreatDoor
open Go Go.ChangeShapes Go.WideShapes Go.ChangeAt Go.RowKit Go.A Go.Lib Go.Shelf
theorem row_own:ownKnob Tryz.prog.godebug=none:=by kernel_rfl
theorem row_laid:laidOutB Tryz.prog=true:=by kernel_rfl
theorem first_eq:Rows.laid_unicode_utf8_first=firstData:=by kernel_rfl
theorem acc_eq:(Rows.laid_unicode_utf8_acceptRanges:DataW Unit)=acceptData:=by kernel_rfl
theorem u8_extra:U8Extra Tryz.prog Tryz.lays260_ren:=⟨by kernel_rfl,by kernel_rfl,by kernel_rfl,by kernel_rfl,by kernel_rfl,by kernel_rfl,by kernel_rfl⟩
theorem var_size {P:Program} {w:World} {n:String} {d:DataW Unit} (h:VarReads P w n d) {g:Nat} (hg:P.globalNamed n=some g) {t e:TypeId} {k:Nat} (hty:(P.globals[g]?).map (·.type)=some t) (ht:P.underlying t=some (.array k e)) :
  ∃ cs T fr,w.heap[g]? = some (.cells cs T fr)/\cs.size=P.cellsOf t:=by
 obtain ⟨g',t',cs,fuel,p,hg',hty',hvar,hd⟩:=h
 obtain rfl:=Option.some.inj (hg.symm.trans hg')
 obtain rfl:=Option.some.inj (hty.symm.trans hty')
 have hlen:cs.toList.length=P.cellsOf t:=by
  cases fuel with
  | zero=>simp [DataW.trod] at hd
  | succ fuel=>
    simp only [DataW.trod,ht] at hd
    split at hd
    ·assumption
    ·cases hd
 unfold World.var? at hvar
 rw [hg,Option.bind_some] at hvar
 split at hvar
 ·rename_i cs' T fr hheap
  injection hvar with hvar
  subst hvar
  exact ⟨_,_,_,hheap,by simpa using hlen⟩
 ·cases hvar
theorem ints_reps {σ:ASt} {w:World} {k:IntKind}:∀ zs:List Int,Reps σ w (zs.map (AV.int k)) (zs.map (Value.int k))
 | [] => .nil
 | z::zs => .cons (.int k z) (ints_reps zs)
theorem slice_reads {P:Program} {w:World} {name:String} {g:Nat} {t e:TypeId} {k:IntKind} {l:List Int} (hn:P.globalNamed name=some g) (hy:(P.globals[g]?).map (·.type)=some t)
  (ht:P.underlying t=some (.slice e)) (he:P.underlying e=some (.int k)) (hc:P.cellsOf e=1) (hl:0<l.length) (h:VarReads P w name (.slice (l.map fun x => .lit (.int k x)) [])) :
  ∃ R o cap T fr,w.heap[g]? = some (.cells #[.slice (some ⟨R,o,none⟩) l.length cap] T fr)/\l.length<=cap/\∀ j z,l[j]? = some z->w.cell? ⟨R,o+j,none⟩=some (.int k z):=by
 obtain ⟨g',t',cs,fuel,p,hg,hty,hvar,hd⟩:=h
 obtain rfl:=Option.some.inj (hn.symm.trans hg)
 obtain rfl:=Option.some.inj (hy.symm.trans hty)
 rcases DataW.trod_slice ht hd with ⟨_,hx⟩|⟨a,len,cap,el,rs,m,rfl,hcs,hx,_,hlc,_,hel,helem,hsp,_⟩
 ·cases hx
 have e0:=congrArg Prod.fst hx
 simp only [DataW.slice.injEq] at e0
 obtain ⟨eE,eR⟩:=e0
 have hlen:len=l.length:=by
  have:=congrArg List.length eE
  simp at this
  omega
 have hcell:∀ i z,l[i]? = some z->w.cell? (a.add i)=some (.int k z):=by
  intro i z hiz
  have hi:i<l.length:=(List.getElem?_eq_some_iff.1 hiz).1
  have h1:=helem i (by omega)
  rw [hc] at h1
  obtain ⟨b, hb⟩ : ∃ b, el[i]? = some b := ⟨el[i]'(by omega), List.getElem?_eq_getElem (by omega)⟩
  rw [hb] at h1
  obtain ⟨ce,hce,hte⟩:=Option.bind_eq_some_iff.1 h1
  obtain ⟨z',hz,hbz,_⟩:=DataW.trod_int he hte
  have hb1:b.1 = .lit (.int k z):=by
   have:=congrArg (·[i]?) eE
   simp only [List.getElem?_map,hiz,hb,Option.map_some,Option.some.injEq] at this
   exact this.symm
  rw [hbz] at hb1
  simp only [DataW.lit.injEq,Lit.int.injEq,true_and] at hb1
  obtain ⟨_,_,hcc⟩:=World.cells?_some hce
  have:=hcc 0 (by omega)
  rw [hz] at this
  simp only [Nat.mul_one] at this
  have e1:(a.add i).add 0=a.add i:=by simp [Addr.add]
  rw [e1] at this
  rw [this,← hb1]
  rfl
 obtain ⟨z0,hz0⟩:∃ z,l[0]? = some z:=⟨l[0],List.getElem?_eq_getElem hl⟩
 obtain ⟨R,o,sR⟩:=a
 obtain rfl:sR=none:=by
  have h00:=hcell 0 z0 hz0
  have:(Addr.add ⟨R,o,sR⟩ 0)=⟨R,o,sR⟩:=by simp [Addr.add]
  rw [this] at h00
  exact Go.Proofs.cell_spot h00
 unfold World.var? at hvar
 rw [hn,Option.bind_some] at hvar
 split at hvar
 ·rename_i cs' T fr hheap
  injection hvar with hvar
  subst hvar
  have hcs2:cs' = #[.slice (some ⟨R,o,none⟩) l.length cap]:=by
   rw [<-hlen]
   exact Array.ext' (by simpa using hcs)
  subst hcs2
  exact ⟨R,o,cap,T,fr,hheap,by omega,fun j z hj=>by have:=hcell j z hj;rwa [Addr.add_lit] at this⟩
 ·cases hvar
theorem fix_ok {σ:ASt} {W:World} {b:Nat} {zs:List Int} (hs:σ b=some (.fix (zs.map (AV.int .u8)))) {cs:Array Value} {T:TypeId} {fr:Nat×Nat} (hh:W.heap[b]? = some (.cells cs T fr)) (hsz:cs.size=zs.length)
  (hc:∀ j z,zs[j]? = some z->W.cell? ⟨b,j,none⟩=some (.int .u8 z)):RoleOk σ W b (.fix (zs.map (AV.int .u8))):=by
 have hlt:b<W.heap.size:=(Array.getElem?_eq_some_iff.1 hh).1
 refine ⟨At.mk' (ints_reps _) (fun j _=>⟨hlt,.inr (.inl ⟨_,hs⟩)⟩) (fun j v hj=>?_),cs,T,fr,hh,by simpa using hsz⟩
 rw [List.getElem?_map] at hj
 obtain ⟨z,hz,rfl⟩:=Option.map_eq_some_iff.1 hj
 rw [Nat.zero_add]
 exact hc j z hz
def stOf:List (Nat×List AV)->ASt
 | [],_=>none
 | p::ps,b=>if b=p.1 then some (.fix p.2) else stOf ps b
theorem stOf_fix:∀ {ps:List (Nat×List AV)} {b:Nat} {r:Role},stOf ps b=some r->∃ l,r = .fix l
 | [],_,_,h=>by cases h
 | p::ps,b,r,h=>by
   simp only [stOf] at h
   split at h
   ·injection h with h;exact ⟨_,h.symm⟩
   ·exact stOf_fix h
theorem stOf_mem:∀ {ps:List (Nat×List AV)} {b:Nat} {r:Role},stOf ps b=some r->∃ l,(b,l)∈ps/\r = .fix l
 | [],_,_,h=>by cases h
 | p::ps,b,r,h=>by
   simp only [stOf] at h
   split at h
   ·rename_i hb
    injection h with h
    subst hb
    exact ⟨p.2,List.mem_cons_self,h.symm⟩
   ·obtain ⟨l,hl,he⟩:=stOf_mem h
    exact ⟨l,List.mem_cons_of_mem _ hl,he⟩
theorem still_fix {σ:ASt} (hfx:∀ b r,σ b=some r->∃ l,r = .fix l) {w:World} {b o:Nat} (h:b<w.heap.size):Still σ w b o:=by
 refine ⟨h,?_⟩
 cases hb:σ b with
 | none=>exact .inl rfl
 | some r=>obtain ⟨l,rfl⟩:=hfx b r hb;exact .inr (.inl ⟨_,rfl⟩)
theorem row_of {σ:ASt} {w:World} {b:Nat} {k:IntKind} (hst:∀ o,Still σ w b o):∀ (zs:List Int) (o:Nat),(∀ j z,zs[j]? = some z->w.cell? ⟨b,o+j,none⟩=some (.int k z))->Row σ w b o 1 (zs.map (AV.int k))
 | [],o,_ => .nil _ _ _
 | z::zs,o,h => .cons rfl (.cons (hst o) (h 0 z rfl) (.int k z) (.nil _ _)) (row_of hst zs (o+1) fun j z' hj=>by
   have:=h (j+1) z' (by simpa using hj)
   rwa [show o+(j+1)=o+1+j by omega] at this)
end Go.Proofs.YtpbiocfpbcpfkaaGreatDoor
namespace Go.A
section
variable {σ:ASt} {w:World}
theorem Still.fixed (hfx:∀ b r,σ b=some r->∃ l,r = .fix l) {b o:Nat} (h:Still noRole w b o):Still σ w b o:=by
 refine ⟨h.1,?_⟩
 cases hb:σ b with
 | none=>exact .inl rfl
 | some r=>obtain ⟨l,rfl⟩:=hfx b r hb;exact .inr (.inl ⟨_,rfl⟩)
theorem Stands.fixed (hfx:∀ b r,σ b=some r->∃ l,r = .fix l) (b:Nat):Stands σ b:=by
 refine ⟨fun cs h=>?_,fun l p h=>?_,fun T cs h=>?_⟩<;>(obtain ⟨l,hl⟩:=hfx b _ h;cases hl)
theorem SK.ok_fixed (hfx:∀ b r,σ b=some r->∃ l,r = .fix l) {k:SK} {b o n c sz:Nat} (h:k.ok noRole w b o n c sz):k.ok σ w b o n c sz:=by
 cases k with
 | shr=>trivial
 | full=>exact h
 | tok t s T=>exact ⟨h.1,h.2.1,h.2.2.1,h.2.2.2.1,Stands.fixed hfx b⟩
mutual
theorem Rep.fixed (hfx:∀ b r,σ b=some r->∃ l,r = .fix l):∀ {a:AV} {v:Value},Rep noRole w a v->Rep σ w a v
 | _,_,.any v => .any v
 | _,_,.bool b => .bool b
 | _,_,.int k n => .int k n
 | _,_,.str l => .str l
 | _,_,.ptr b o => .ptr b o
 | _,_,.imm h1 => .imm (h1.fixed hfx)
 | _,_,.nilp => .nilp
 | _,_,.slE A c => .slE A c
 | _,_,.slN => .slN
 | _,_,.sl h1 h2 h3 h4 h5 => .sl (h1.fixed hfx) h2 h3 (SK.ok_fixed hfx h4) h5
 | _,_,.msl b o n c => .msl b o n c
 | _,_,.agg h1 => .agg (h1.fixed hfx)
 | _,_,.tuple h1 => .tuple (h1.fixed hfx)
 | _,_,.iface h1 => .iface (h1.fixed hfx)
 | _,_,.nili => .nili
 | _,_,.func h1 h2 => .func (h1.fixed hfx) (h2.fixed hfx)
 | _,_,.nilf => .nilf
theorem Reps.fixed (hfx:∀ b r,σ b=some r->∃ l,r = .fix l):∀ {avs:List AV} {vs:List Value},Reps noRole w avs vs->Reps σ w avs vs
 | _,_,.nil => .nil
 | _,_,.cons h1 h2 => .cons (h1.fixed hfx) (h2.fixed hfx)
theorem At.fixed (hfx:∀ b r,σ b=some r->∃ l,r = .fix l):∀ {b o:Nat} {avs:List AV},At noRole w b o avs->At σ w b o avs
 | _,_,_,.nil b o => .nil b o
 | _,_,_,.cons h1 h2 h3 h4 => .cons (h1.fixed hfx) h2 (h3.fixed hfx) (h4.fixed hfx)
theorem Row.fixed (hfx:∀ b r,σ b=some r->∃ l,r = .fix l):∀ {b o sz:Nat} {avs:List AV},Row noRole w b o sz avs->Row σ w b o sz avs
 | _,_,_,_,.nil b o sz => .nil b o sz
 | _,_,_,_,.cons h1 h2 h3 => .cons h1 (h2.fixed hfx) (h3.fixed hfx)
end
end
end Go.A
namespace Go.Proofs.YtpbiocfpbcpfkaaGreatDoor
open Go Go.ChangeShapes Go.WideShapes Go.ChangeAt Go.RowKit Go.A Go.Lib Go.Shelf
theorem u8_roles {σ : ASt} {W : World} (h3 : VarReads Tryz.prog W "unicode/utf8.first" firstData) (h4 : VarReads Tryz.prog W "unicode/utf8.acceptRanges" acceptData) :
  (σ 3=some (.fix (firstTab.map (AV.int .u8)))->RoleOk σ W 3 (.fix (firstTab.map (AV.int .u8))))/\(σ 4=some (.fix (accTab.map (AV.int .u8)))->RoleOk σ W 4 (.fix (accTab.map (AV.int .u8)))):=by
 have hT:=utf8Tabs_of_reads (ρ:=Tryz.lays260_ren) Tryz.lays260 u8_extra h3 h4
 obtain ⟨hT1,hT2⟩:=hT
 have hT1:∀ c,c<256->W.cell? ⟨3,c,none⟩=some (.int .u8 (firstT c)):=hT1
 have hT2:∀ i,i<16->W.cell? ⟨4,2*i,none⟩=some (.int .u8 (accLo i))/\W.cell? ⟨4,2*i+1,none⟩=some (.int .u8 (accHi i)):=hT2
 constructor
 ·intro hs
  obtain ⟨cs,T,fr,hh,hsz⟩:=var_size h3 (g:=3) (by kernel_rfl) u8_extra.y3 (Tryz.lays260.t119)
  refine fix_ok hs hh (hsz.trans (by kernel_rfl)) fun j z hj=>?_
  have hl:=(List.getElem?_eq_some_iff.1 hj).1
  simp only [firstTab,List.length_map,List.length_range] at hl
  simp only [firstTab,List.getElem?_map,List.getElem?_range hl,Option.map_some,Option.some.injEq] at hj
  subst hj
  exact hT1 j hl
 ·intro hs
  obtain ⟨cs,T,fr,hh,hsz⟩:=var_size h4 (g:=4) (by kernel_rfl) u8_extra.y4 (Tryz.lays260.t139)
  refine fix_ok hs hh (hsz.trans (by kernel_rfl)) fun j z hj=>?_
  have hl:=(List.getElem?_eq_some_iff.1 hj).1
  have key:∀ j,j<32->accTab[j]? = some (if j % 2=0 then (accLo (j / 2):Int) else accHi (j / 2)):=by decide
  have hl:j<32:=hl
  rw [key j hl] at hj
  injection hj with hj
  subst hj
  obtain ⟨g1,g2⟩:=hT2 (j / 2) (by omega)
  split
  ·rw [show 2*(j / 2)=j by omega] at g1;exact g1
  ·rw [show 2*(j / 2)+1=j by omega] at g2;exact g2
theorem tens_role {σ : ASt} {W : World} (hfx : ∀ b r, σ b = some r → ∃ l, r = .fix l) (h5 : VarReads Tryz.prog W "tabular/deci.tens" (.slice (tensL.map fun x => .lit (.int .u64 x)) [])) :
  RoleOk σ W 0 (.fix [.sl .shr (tensL.map (AV.int .u64))]):=by
 obtain ⟨R,o,cap,T,fr,hheap,hle,hcells⟩:=slice_reads (g:=0) (t:=118) (e:=75) (by kernel_rfl) (by kernel_rfl) (by kernel_rfl) (by kernel_rfl) (by kernel_rfl) (by decide) h5
 have hlt:0<W.heap.size:=(Array.getElem?_eq_some_iff.1 hheap).1
 have hR:R<W.heap.size:=by
  have:=hcells 0 1 rfl
  refine Nat.lt_of_not_le fun hge=>?_
  simp [World.cell?,Array.getElem?_eq_none hge] at this
 exact ⟨.cons (still_fix hfx hlt) (by simp [World.cell?,hheap]) (.sl (sz:=1) (row_of (fun o=>still_fix hfx hR) tensL o hcells) (by simp) hle trivial hR) (.nil _ _),_,T,fr,hheap,rfl⟩
theorem calls_st {ps:List (Nat×List AV)} {f:FuncId} {args:List AV} {vs:List Value} {w:World} (h:ACalls Tryz.prog f args (stOf ps) fun r σ'=>r = .bool true/\σ'=stOf ps) (hs:Sim (stOf ps) w) (hr:Reps (stOf ps) w args vs) :
  Calls Tryz.prog f ⟨vs⟩ w fun e w'=>e = .returned (.bool true)/\Ext w w':=
 (h w vs hs hr).mono fun e w' ⟨u,r,σ',he,⟨hrt,hst⟩,hle,_,hrep⟩=>by
  subst hrt hst
  cases hrep
  refine ⟨he,Ext.of_below ⟨hle.os,hle.tape,hle.output,hle.size,fun k hk=>?_⟩⟩
  cases hn:stOf ps k with
  | none=>exact (hle.keep k hk hn).2
  | some r=>
    obtain ⟨l,rfl⟩:=stOf_fix hn
    exact (hle.fix k _ hk hn).2
end Go.Proofs.YtpbiocfpbcpfkaaGreatDoor
namespace Go.Proofs.YtpbiocfpbcpfkaaGreatDoor
open Go Go.ChangeShapes Go.WideShapes Go.ChangeAt Go.RowKit Go.A Go.Lib Go.Shelf
def laidM : List (String × DataW Unit) := [("unicode/utf8.acceptRanges", Rows.laid_unicode_utf8_acceptRanges), ("tabular/deci.tens", Rows.laid_tabular_deci_tens), ("unicode/utf8.first", Rows.laid_unicode_utf8_first)]
def mPs:List (Nat×List AV) := [(3,firstTab.map (AV.int .u8)),(4,accTab.map (AV.int .u8)),(0,[.sl .shr (tensL.map (AV.int .u64))])]
def mSt:ASt:=stOf mPs
theorem mSt_u8:U8 mSt:=⟨by simp [mSt,mPs,stOf],by simp [mSt,mPs,stOf]⟩
theorem mSt_tens:Tens mSt:=by simp [Tens,mSt,mPs,stOf]
theorem m_sim {W:World} (h:laidMetH Tryz.prog laidM W):Sim mSt W:=by
 rw [MakeChecks.laidMetH_plain _ _ _ (by kernel_rfl)] at h
 have h4 : VarReads Tryz.prog W "unicode/utf8.acceptRanges" acceptData := acc_eq ▸ Lib.laidMet.reads h (.head _)
 have h5 : VarReads Tryz.prog W "tabular/deci.tens" (.slice (tensL.map fun x => .lit (.int .u64 x)) []) := Lib.laidMet.reads h (.tail _ (.head _))
 have h3 : VarReads Tryz.prog W "unicode/utf8.first" firstData := first_eq ▸ Lib.laidMet.reads h (.tail _ (.tail _ (.head _)))
 obtain ⟨r1,r2⟩:=u8_roles (σ:=mSt) h3 h4
 intro b r hb
 obtain ⟨l,hl,rfl⟩:=stOf_mem hb
 simp only [mPs,List.mem_cons,List.not_mem_nil,or_false,Prod.mk.injEq] at hl
 rcases hl with ⟨rfl,rfl⟩|⟨rfl,rfl⟩|⟨rfl,rfl⟩
 ·exact r1 mSt_u8.1
 ·exact r2 mSt_u8.2
 ·exact tens_role (fun _ _=>stOf_fix) h5
theorem calls_m {f:FuncId} {args:List AV} {vs:List Value} {w:World} (h:ACalls Tryz.prog f args mSt fun r σ'=>r = .bool true/\σ'=mSt) (hs:Sim mSt w) (hr:Reps mSt w args vs) :
  Calls Tryz.prog f ⟨vs⟩ w fun e w'=>e = .returned (.bool true)/\Ext w w':=calls_st h hs hr
end Go.Proofs.YtpbiocfpbcpfkaaGreatDoor
