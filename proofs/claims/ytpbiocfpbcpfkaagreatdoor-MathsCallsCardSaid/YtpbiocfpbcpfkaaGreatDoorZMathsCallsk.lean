/- Part 11 of what MathsCalls leans on: Rzb CodeJx Jx CodeJf Jf CodeJk Jk CodeRzc. -/
import Derived.Test.YtpbiocfpbcpfkaaGreatDoorProg
import Derived.KernelRfl
import Derived.Test.YtpbiocfpbcpfkaaGreatDoorZMathsCallsj
set_option linter.defProp false
set_option linter.unusedSimpArgs false
set_option linter.unusedVariables false
set_option maxRecDepth 100000
namespace Go.A
open Go.Proofs Go.Lib
theorem nearO_le {A S:Nat} {q:Int} (hA:A<=999999999999999999) (hS:0<S) (h:nearO A S=some q):q.natAbs<=999999999999999999:=by
 have m1:=Int.emod_nonneg (A:Int) (show (S:Int)≠0 by omega)
 have m3:=emod_le (a:=(A:Int)) (b:=(S:Int)) (by omega) (by omega)
 unfold nearO at h
 split at h
 ·unfold fitP at h
  split at h
  ·injection h with h;omega
  ·cases h
 ·injection h with h
  generalize (A:Int) % S=r at *
  omega
set_option maxHeartbeats 1000000 in
theorem rhead {σ σ0:ASt} {c:Nat} {V:AV} {s:List UInt8} {k:SK} {a:Int} {T:List Int} (hl:T.length<=900) (hb:(secP (a::T) 0).natAbs<=999999999999999999)
  (h:∀ a1:AFr,(a1 0 = .str s/\a1 4 = .ptr c 0/\a1 7 = .sl k ((a::T).map (AV.int .i64))/\a1 12 = .int .i64 a/\a1 13 = .int .i64 (placesM (a::T))/\a1 14 = .int .i64 (secP (a::T) 10000))->ACode.wp Tryz.prog c12_220 (RetQ [.c 4 (some 3)] fun v σ'=>v=V/\σ'=σ0) a1 σ) :
  ∀ a0:AFr,(a0 0 = .str s/\a0 4 = .ptr c 0/\a0 7 = .sl k ((a::T).map (AV.int .i64)))->ACode.wp Tryz.prog c12_224 (RetQ [.c 4 (some 3)] fun v σ'=>v=V/\σ'=σ0) a0 σ:=by
 intro a0 hf
 obtain ⟨F,hF⟩:∃ F,F=ACode.wp Tryz.prog c12_220:=⟨_,rfl⟩
 rw [<-hF] at h
 cases T with
 | nil=>
   have h1:placesM [a]=0:=rfl
   have h2:secP [a] 10000=10000:=rfl
   rw [h1,h2] at h
   simp only [List.map_cons,List.map_nil] at hf h
   simp (disch:=first|assumption|omega|(simp only [List.length_append,List.length_cons,List.length_nil];omega)) only [go_sem,reduceCtorEq,Nat.reduceEqDiff,Nat.reduceAdd,Nat.reduceSub,Nat.reduceMul,Nat.reduceLeDiff,Int.reduceLT,Int.reduceLE,Int.reduceEq,↓reduceIte,Int.reduceNeg,Int.reduceAdd,Int.reduceSub,Int.reduceMul,true_imp_iff,forall_const,Nat.mul_one,Int.reduceToNat,Nat.reducePow,Int.reducePow,Bool.true_and,Bool.false_and,Bool.and_false,hf,←hF]
   refine h _ ?_
   simp (disch:=first|assumption|omega|(simp only [List.length_append,List.length_cons,List.length_nil];omega)) only [go_sem,reduceCtorEq,Nat.reduceEqDiff,Nat.reduceAdd,Nat.reduceSub,Nat.reduceMul,Nat.reduceLeDiff,Int.reduceLT,Int.reduceLE,Int.reduceEq,↓reduceIte,Int.reduceNeg,Int.reduceAdd,Int.reduceSub,Int.reduceMul,true_imp_iff,forall_const,Nat.mul_one,Int.reduceToNat,Nat.reducePow,Int.reducePow,Bool.true_and,Bool.false_and,Bool.and_false,hf]
 | cons b T=>
   obtain ⟨p,hp⟩:∃ p,placesM (a::b::T)=p:=⟨_,rfl⟩
   have h2:secP (a::b::T) 10000=b:=rfl
   have hb':b.natAbs<=999999999999999999:=hb
   rw [hp,h2] at h
   have hp':max (min (b.tdiv 10000) 20) (-20)=p:=hp
   obtain ⟨z,hz⟩:∃ z,b.tdiv 10000=z:=⟨_,rfl⟩
   have hzb:z.natAbs<=999999999999999999:=by
    rw [<-hz,Int.natAbs_tdiv]
    exact Nat.le_trans (Nat.div_le_self _ _) hb'
   rw [hz] at hp'
   clear hp
   simp only [List.length_cons] at hl
   simp only [List.map_cons] at hf h
   have g:(1:Int)<((((T.map (AV.int .i64)).length+1+1:Nat)):Int):=by simp;omega
   have g2:(1:Int)<(T.length:Int)+1+1:=by omega
   simp (disch:=first|assumption|omega|(simp only [List.length_append,List.length_cons,List.length_nil];omega)) only [go_sem,reduceCtorEq,Nat.reduceEqDiff,Nat.reduceAdd,Nat.reduceSub,Nat.reduceMul,Nat.reduceLeDiff,Int.reduceLT,Int.reduceLE,Int.reduceEq,↓reduceIte,Int.reduceNeg,Int.reduceAdd,Int.reduceSub,Int.reduceMul,true_imp_iff,forall_const,Nat.mul_one,Int.reduceToNat,Nat.reducePow,Int.reducePow,Bool.true_and,Bool.false_and,Bool.and_false,hf,g,g2,hz,hp',←hF]
   refine h _ ?_
   simp (disch:=first|assumption|omega|(simp only [List.length_append,List.length_cons,List.length_nil];omega)) only [go_sem,reduceCtorEq,Nat.reduceEqDiff,Nat.reduceAdd,Nat.reduceSub,Nat.reduceMul,Nat.reduceLeDiff,Int.reduceLT,Int.reduceLE,Int.reduceEq,↓reduceIte,Int.reduceNeg,Int.reduceAdd,Int.reduceSub,Int.reduceMul,true_imp_iff,forall_const,Nat.mul_one,Int.reduceToNat,Nat.reducePow,Int.reducePow,Bool.true_and,Bool.false_and,Bool.and_false,hf]
set_option maxHeartbeats 1000000 in
theorem rk_ABS {σ σ0:ASt} {c:Nat} {k:SK} (hσ:σ c=some (.obj [.int .i64 0,.int .i64 0,.str []])) (hD:∀ X,Drop (σ.set c X) σ0) {a:Int} {T:List Int} (hl:T.length<=900) (ha:a.natAbs<=999999999999999999) (hT1:(secP (a::T) 0).natAbs<=999999999999999999) (hT2:(secP (a::T) 10000).natAbs<=999999999999999999):∀ (a1:AFr),(a1 0 = .str sABS/\a1 4 = .ptr c 0/\a1 7 = .sl k ((a::T).map (AV.int .i64)))->ACode.wp Tryz.prog c12_224 (RetQ [.c 4 (some 3)] fun v σ'=>v=tellAV (PV.num (a.natAbs:Nat))/\σ'=σ0) a1 σ:=by
 have hpl : -20<=placesM (a::T)/\placesM (a::T)<=20:=by unfold placesM;omega
 obtain ⟨s,hs⟩:∃ s,sABS=s:=⟨_,rfl⟩
 have n0:(s = [65,66,83])=True:=eq_true (by rw [<-hs];decide)
 have n1:(s = [83,73,71,78])=False:=eq_false (by rw [<-hs];decide)
 have n2:(s = [73,78,84])=False:=eq_false (by rw [<-hs];decide)
 have n3:(s = [84,82,85,78,67])=False:=eq_false (by rw [<-hs];decide)
 have n4:(s = [82,79,85,78,68,68,79,87,78])=False:=eq_false (by rw [<-hs];decide)
 have n5:(s = [82,79,85,78,68])=False:=eq_false (by rw [<-hs];decide)
 have n6:(s = [82,79,85,78,68,85,80])=False:=eq_false (by rw [<-hs];decide)
 have n7:(s = [70,76,79,79,82])=False:=eq_false (by rw [<-hs];decide)
 have n8:(s = [67,69,73,76,73,78,71])=False:=eq_false (by rw [<-hs];decide)
 have n9:(s = [77,82,79,85,78,68])=False:=eq_false (by rw [<-hs];decide)
 have n10:(s = [77,79,68])=False:=eq_false (by rw [<-hs];decide)
 have n11:(s = [81,85,79,84,73,69,78,84])=False:=eq_false (by rw [<-hs];decide)
 have n12:(s = [80,79,87,69,82])=False:=eq_false (by rw [<-hs];decide)
 have n13:(s = [83,81,82,84])=False:=eq_false (by rw [<-hs];decide)
 have n14:(s = [70,65,67,84])=False:=eq_false (by rw [<-hs];decide)
 have n15:(s = [69,86,69,78])=False:=eq_false (by rw [<-hs];decide)
 have n16:(s = [79,68,68])=False:=eq_false (by rw [<-hs];decide)
 have n17:(s = [67,76,65,77,80])=False:=eq_false (by rw [<-hs];decide)
 have n18:(s = [71,67,68])=False:=eq_false (by rw [<-hs];decide)
 have n19:(s = [76,67,77])=False:=eq_false (by rw [<-hs];decide)
 rw [hs]
 refine rhead hl hT1 fun a1 hf=>?_
 generalize placesM (a::T)=p at *
 generalize secP (a::T) 10000=t at *
 have hX:=rsize_ok a ha
 obtain ⟨A,hA⟩:∃ A:Nat,a.natAbs=A:=⟨_,rfl⟩
 rw [hA] at hX ha ⊢
 have eA:IntKind.i64.wrap (A:Int)=A:=by rw [IntKind.wrap_i64];omega
 have hN:=rNum_ok (A:Int)
 simp only [tellAV] at hN ⊢
 simp (disch:=first|assumption|omega|(simp only [List.length_append,List.length_cons,List.length_nil];omega)) only [go_sem,reduceCtorEq,Nat.reduceEqDiff,Nat.reduceAdd,Nat.reduceSub,Nat.reduceMul,Nat.reduceLeDiff,Int.reduceLT,Int.reduceLE,Int.reduceEq,↓reduceIte,Int.reduceNeg,Int.reduceAdd,Int.reduceSub,Int.reduceMul,true_imp_iff,forall_const,Nat.mul_one,Int.reduceToNat,Nat.reducePow,Int.reducePow,Bool.true_and,Bool.false_and,Bool.and_false,hf,hσ,eA,n0,n1,n2,n3,n4,n5,n6,n7,n8,n9,n10,n11,n12,n13,n14,n15,n16,n17,n18,n19]
 refine hX.use ?_
 simp (disch:=first|assumption|omega|(simp only [List.length_append,List.length_cons,List.length_nil];omega)) only [go_sem,reduceCtorEq,Nat.reduceEqDiff,Nat.reduceAdd,Nat.reduceSub,Nat.reduceMul,Nat.reduceLeDiff,Int.reduceLT,Int.reduceLE,Int.reduceEq,↓reduceIte,Int.reduceNeg,Int.reduceAdd,Int.reduceSub,Int.reduceMul,true_imp_iff,forall_const,Nat.mul_one,Int.reduceToNat,Nat.reducePow,Int.reducePow,Bool.true_and,Bool.false_and,Bool.and_false,hf,hσ,ASt.set_set,eA]
 refine hN.use ?_
 simp (disch:=first|assumption|omega|(simp only [List.length_append,List.length_cons,List.length_nil];omega)) only [go_sem,reduceCtorEq,Nat.reduceEqDiff,Nat.reduceAdd,Nat.reduceSub,Nat.reduceMul,Nat.reduceLeDiff,Int.reduceLT,Int.reduceLE,Int.reduceEq,↓reduceIte,Int.reduceNeg,Int.reduceAdd,Int.reduceSub,Int.reduceMul,true_imp_iff,forall_const,Nat.mul_one,Int.reduceToNat,Nat.reducePow,Int.reducePow,Bool.true_and,Bool.false_and,Bool.and_false,hf,hσ,ASt.set_set]
 exact retC_by (hD _) (.refl _) ⟨rfl,rfl⟩
set_option maxHeartbeats 1000000 in
theorem rk_SIGN {σ σ0:ASt} {c:Nat} {k:SK} (hσ:σ c=some (.obj [.int .i64 0,.int .i64 0,.str []])) (hD:∀ X,Drop (σ.set c X) σ0) {a:Int} {T:List Int} (hl:T.length<=900) (ha:a.natAbs<=999999999999999999) (hT1:(secP (a::T) 0).natAbs<=999999999999999999) (hT2:(secP (a::T) 10000).natAbs<=999999999999999999):∀ (a1:AFr),(a1 0 = .str sSIGN/\a1 4 = .ptr c 0/\a1 7 = .sl k ((a::T).map (AV.int .i64)))->ACode.wp Tryz.prog c12_224 (RetQ [.c 4 (some 3)] fun v σ'=>v=tellAV (PV.num (sgn a*10000))/\σ'=σ0) a1 σ:=by
 have hpl : -20<=placesM (a::T)/\placesM (a::T)<=20:=by unfold placesM;omega
 obtain ⟨s,hs⟩:∃ s,sSIGN=s:=⟨_,rfl⟩
 have n0:(s = [65,66,83])=False:=eq_false (by rw [<-hs];decide)
 have n1:(s = [83,73,71,78])=True:=eq_true (by rw [<-hs];decide)
 have n2:(s = [73,78,84])=False:=eq_false (by rw [<-hs];decide)
 have n3:(s = [84,82,85,78,67])=False:=eq_false (by rw [<-hs];decide)
 have n4:(s = [82,79,85,78,68,68,79,87,78])=False:=eq_false (by rw [<-hs];decide)
 have n5:(s = [82,79,85,78,68])=False:=eq_false (by rw [<-hs];decide)
 have n6:(s = [82,79,85,78,68,85,80])=False:=eq_false (by rw [<-hs];decide)
 have n7:(s = [70,76,79,79,82])=False:=eq_false (by rw [<-hs];decide)
 have n8:(s = [67,69,73,76,73,78,71])=False:=eq_false (by rw [<-hs];decide)
 have n9:(s = [77,82,79,85,78,68])=False:=eq_false (by rw [<-hs];decide)
 have n10:(s = [77,79,68])=False:=eq_false (by rw [<-hs];decide)
 have n11:(s = [81,85,79,84,73,69,78,84])=False:=eq_false (by rw [<-hs];decide)
 have n12:(s = [80,79,87,69,82])=False:=eq_false (by rw [<-hs];decide)
 have n13:(s = [83,81,82,84])=False:=eq_false (by rw [<-hs];decide)
 have n14:(s = [70,65,67,84])=False:=eq_false (by rw [<-hs];decide)
 have n15:(s = [69,86,69,78])=False:=eq_false (by rw [<-hs];decide)
 have n16:(s = [79,68,68])=False:=eq_false (by rw [<-hs];decide)
 have n17:(s = [67,76,65,77,80])=False:=eq_false (by rw [<-hs];decide)
 have n18:(s = [71,67,68])=False:=eq_false (by rw [<-hs];decide)
 have n19:(s = [76,67,77])=False:=eq_false (by rw [<-hs];decide)
 rw [hs]
 refine rhead hl hT1 fun a1 hf=>?_
 generalize placesM (a::T)=p at *
 generalize secP (a::T) 10000=t at *
 by_cases h1:a<0
 ·have hN:=rNum_ok (-10000)
  have e:sgn a*10000 = -10000:=by unfold sgn;rw [if_pos h1];rfl
  rw [e]
  simp only [tellAV] at hN ⊢
  simp (disch:=first|assumption|omega|(simp only [List.length_append,List.length_cons,List.length_nil];omega)) only [go_sem,reduceCtorEq,Nat.reduceEqDiff,Nat.reduceAdd,Nat.reduceSub,Nat.reduceMul,Nat.reduceLeDiff,Int.reduceLT,Int.reduceLE,Int.reduceEq,↓reduceIte,Int.reduceNeg,Int.reduceAdd,Int.reduceSub,Int.reduceMul,true_imp_iff,forall_const,Nat.mul_one,Int.reduceToNat,Nat.reducePow,Int.reducePow,Bool.true_and,Bool.false_and,Bool.and_false,hf,hσ,h1,n0,n1,n2,n3,n4,n5,n6,n7,n8,n9,n10,n11,n12,n13,n14,n15,n16,n17,n18,n19]
  refine hN.use ?_
  simp (disch:=first|assumption|omega|(simp only [List.length_append,List.length_cons,List.length_nil];omega)) only [go_sem,reduceCtorEq,Nat.reduceEqDiff,Nat.reduceAdd,Nat.reduceSub,Nat.reduceMul,Nat.reduceLeDiff,Int.reduceLT,Int.reduceLE,Int.reduceEq,↓reduceIte,Int.reduceNeg,Int.reduceAdd,Int.reduceSub,Int.reduceMul,true_imp_iff,forall_const,Nat.mul_one,Int.reduceToNat,Nat.reducePow,Int.reducePow,Bool.true_and,Bool.false_and,Bool.and_false,hf,hσ,ASt.set_set]
  exact retC_by (hD _) (.refl _) ⟨rfl,rfl⟩
 by_cases h2:0<a
 ·have hN:=rNum_ok (10000)
  have e:sgn a*10000=10000:=by unfold sgn;rw [if_neg h1,if_pos h2];rfl
  rw [e]
  simp only [tellAV] at hN ⊢
  simp (disch:=first|assumption|omega|(simp only [List.length_append,List.length_cons,List.length_nil];omega)) only [go_sem,reduceCtorEq,Nat.reduceEqDiff,Nat.reduceAdd,Nat.reduceSub,Nat.reduceMul,Nat.reduceLeDiff,Int.reduceLT,Int.reduceLE,Int.reduceEq,↓reduceIte,Int.reduceNeg,Int.reduceAdd,Int.reduceSub,Int.reduceMul,true_imp_iff,forall_const,Nat.mul_one,Int.reduceToNat,Nat.reducePow,Int.reducePow,Bool.true_and,Bool.false_and,Bool.and_false,hf,hσ,h1,h2,n0,n1,n2,n3,n4,n5,n6,n7,n8,n9,n10,n11,n12,n13,n14,n15,n16,n17,n18,n19]
  refine hN.use ?_
  simp (disch:=first|assumption|omega|(simp only [List.length_append,List.length_cons,List.length_nil];omega)) only [go_sem,reduceCtorEq,Nat.reduceEqDiff,Nat.reduceAdd,Nat.reduceSub,Nat.reduceMul,Nat.reduceLeDiff,Int.reduceLT,Int.reduceLE,Int.reduceEq,↓reduceIte,Int.reduceNeg,Int.reduceAdd,Int.reduceSub,Int.reduceMul,true_imp_iff,forall_const,Nat.mul_one,Int.reduceToNat,Nat.reducePow,Int.reducePow,Bool.true_and,Bool.false_and,Bool.and_false,hf,hσ,ASt.set_set]
  exact retC_by (hD _) (.refl _) ⟨rfl,rfl⟩
 have hN:=rNum_ok (0)
 have e:sgn a*10000=0:=by unfold sgn;rw [if_neg h1,if_neg h2];rfl
 rw [e]
 simp only [tellAV] at hN ⊢
 simp (disch:=first|assumption|omega|(simp only [List.length_append,List.length_cons,List.length_nil];omega)) only [go_sem,reduceCtorEq,Nat.reduceEqDiff,Nat.reduceAdd,Nat.reduceSub,Nat.reduceMul,Nat.reduceLeDiff,Int.reduceLT,Int.reduceLE,Int.reduceEq,↓reduceIte,Int.reduceNeg,Int.reduceAdd,Int.reduceSub,Int.reduceMul,true_imp_iff,forall_const,Nat.mul_one,Int.reduceToNat,Nat.reducePow,Int.reducePow,Bool.true_and,Bool.false_and,Bool.and_false,hf,hσ,h1,h2,n0,n1,n2,n3,n4,n5,n6,n7,n8,n9,n10,n11,n12,n13,n14,n15,n16,n17,n18,n19]
 refine hN.use ?_
 simp (disch:=first|assumption|omega|(simp only [List.length_append,List.length_cons,List.length_nil];omega)) only [go_sem,reduceCtorEq,Nat.reduceEqDiff,Nat.reduceAdd,Nat.reduceSub,Nat.reduceMul,Nat.reduceLeDiff,Int.reduceLT,Int.reduceLE,Int.reduceEq,↓reduceIte,Int.reduceNeg,Int.reduceAdd,Int.reduceSub,Int.reduceMul,true_imp_iff,forall_const,Nat.mul_one,Int.reduceToNat,Nat.reducePow,Int.reducePow,Bool.true_and,Bool.false_and,Bool.and_false,hf,hσ,ASt.set_set]
 exact retC_by (hD _) (.refl _) ⟨rfl,rfl⟩
set_option maxHeartbeats 1000000 in
theorem rk_INT {σ σ0:ASt} {c:Nat} {k:SK} (hσ:σ c=some (.obj [.int .i64 0,.int .i64 0,.str []])) (hD:∀ X,Drop (σ.set c X) σ0) {a:Int} {T:List Int} (hl:T.length<=900) (ha:a.natAbs<=999999999999999999) (hT1:(secP (a::T) 0).natAbs<=999999999999999999) (hT2:(secP (a::T) 10000).natAbs<=999999999999999999):∀ (a1:AFr),(a1 0 = .str sINT/\a1 4 = .ptr c 0/\a1 7 = .sl k ((a::T).map (AV.int .i64)))->ACode.wp Tryz.prog c12_224 (RetQ [.c 4 (some 3)] fun v σ'=>v=tellAV (cntP (fitP (a-a % 10000)))/\σ'=σ0) a1 σ:=by
 have hpl : -20<=placesM (a::T)/\placesM (a::T)<=20:=by unfold placesM;omega
 obtain ⟨s,hs⟩:∃ s,sINT=s:=⟨_,rfl⟩
 have n0:(s = [65,66,83])=False:=eq_false (by rw [<-hs];decide)
 have n1:(s = [83,73,71,78])=False:=eq_false (by rw [<-hs];decide)
 have n2:(s = [73,78,84])=True:=eq_true (by rw [<-hs];decide)
 have n3:(s = [84,82,85,78,67])=False:=eq_false (by rw [<-hs];decide)
 have n4:(s = [82,79,85,78,68,68,79,87,78])=False:=eq_false (by rw [<-hs];decide)
 have n5:(s = [82,79,85,78,68])=False:=eq_false (by rw [<-hs];decide)
 have n6:(s = [82,79,85,78,68,85,80])=False:=eq_false (by rw [<-hs];decide)
 have n7:(s = [70,76,79,79,82])=False:=eq_false (by rw [<-hs];decide)
 have n8:(s = [67,69,73,76,73,78,71])=False:=eq_false (by rw [<-hs];decide)
 have n9:(s = [77,82,79,85,78,68])=False:=eq_false (by rw [<-hs];decide)
 have n10:(s = [77,79,68])=False:=eq_false (by rw [<-hs];decide)
 have n11:(s = [81,85,79,84,73,69,78,84])=False:=eq_false (by rw [<-hs];decide)
 have n12:(s = [80,79,87,69,82])=False:=eq_false (by rw [<-hs];decide)
 have n13:(s = [83,81,82,84])=False:=eq_false (by rw [<-hs];decide)
 have n14:(s = [70,65,67,84])=False:=eq_false (by rw [<-hs];decide)
 have n15:(s = [69,86,69,78])=False:=eq_false (by rw [<-hs];decide)
 have n16:(s = [79,68,68])=False:=eq_false (by rw [<-hs];decide)
 have n17:(s = [67,76,65,77,80])=False:=eq_false (by rw [<-hs];decide)
 have n18:(s = [71,67,68])=False:=eq_false (by rw [<-hs];decide)
 have n19:(s = [76,67,77])=False:=eq_false (by rw [<-hs];decide)
 rw [hs]
 refine rhead hl hT1 fun a1 hf=>?_
 generalize placesM (a::T)=p at *
 generalize secP (a::T) 10000=t at *
 have hX:=rfloor_ok ha (show (0:Int)<10000 by omega) (by omega)
 have hC:=r15counted_ok (fitP (a-a % 10000))
 obtain ⟨x1,x2,x3,ht⟩:=tell_agg (cntP (fitP (a-a % 10000)))
 rw [ht] at hC ⊢
 clear ht
 simp only [resAV] at hX
 generalize fitP (a-a % 10000)=D at *
 simp (disch:=first|assumption|omega|(simp only [List.length_append,List.length_cons,List.length_nil];omega)) only [go_sem,reduceCtorEq,Nat.reduceEqDiff,Nat.reduceAdd,Nat.reduceSub,Nat.reduceMul,Nat.reduceLeDiff,Int.reduceLT,Int.reduceLE,Int.reduceEq,↓reduceIte,Int.reduceNeg,Int.reduceAdd,Int.reduceSub,Int.reduceMul,true_imp_iff,forall_const,Nat.mul_one,Int.reduceToNat,Nat.reducePow,Int.reducePow,Bool.true_and,Bool.false_and,Bool.and_false,hf,hσ,n0,n1,n2,n3,n4,n5,n6,n7,n8,n9,n10,n11,n12,n13,n14,n15,n16,n17,n18,n19]
 refine hX.use ?_
 simp (disch:=first|assumption|omega|(simp only [List.length_append,List.length_cons,List.length_nil];omega)) only [go_sem,reduceCtorEq,Nat.reduceEqDiff,Nat.reduceAdd,Nat.reduceSub,Nat.reduceMul,Nat.reduceLeDiff,Int.reduceLT,Int.reduceLE,Int.reduceEq,↓reduceIte,Int.reduceNeg,Int.reduceAdd,Int.reduceSub,Int.reduceMul,true_imp_iff,forall_const,Nat.mul_one,Int.reduceToNat,Nat.reducePow,Int.reducePow,Bool.true_and,Bool.false_and,Bool.and_false,hf,hσ,ASt.set_set]
 refine hC.use ?_
 simp (disch:=first|assumption|omega|(simp only [List.length_append,List.length_cons,List.length_nil];omega)) only [go_sem,reduceCtorEq,Nat.reduceEqDiff,Nat.reduceAdd,Nat.reduceSub,Nat.reduceMul,Nat.reduceLeDiff,Int.reduceLT,Int.reduceLE,Int.reduceEq,↓reduceIte,Int.reduceNeg,Int.reduceAdd,Int.reduceSub,Int.reduceMul,true_imp_iff,forall_const,Nat.mul_one,Int.reduceToNat,Nat.reducePow,Int.reducePow,Bool.true_and,Bool.false_and,Bool.and_false,hf,hσ,ASt.set_set]
 exact retC_by (hD _) (.refl _) ⟨rfl,rfl⟩
set_option maxHeartbeats 1000000 in
theorem rk_TRUNC {σ σ0:ASt} {c:Nat} {k:SK} (hσ:σ c=some (.obj [.int .i64 0,.int .i64 0,.str []])) (hD:∀ X,Drop (σ.set c X) σ0) {a:Int} {T:List Int} (hl:T.length<=900) (ha:a.natAbs<=999999999999999999) (hT1:(secP (a::T) 0).natAbs<=999999999999999999) (hT2:(secP (a::T) 10000).natAbs<=999999999999999999):∀ (a1:AFr),(a1 0 = .str sTRUNC/\a1 4 = .ptr c 0/\a1 7 = .sl k ((a::T).map (AV.int .i64)))->ACode.wp Tryz.prog c12_224 (RetQ [.c 4 (some 3)] fun v σ'=>v=tellAV (PV.num (truncG a (placesM (a::T))))/\σ'=σ0) a1 σ:=by
 have hpl : -20<=placesM (a::T)/\placesM (a::T)<=20:=by unfold placesM;omega
 obtain ⟨s,hs⟩:∃ s,sTRUNC=s:=⟨_,rfl⟩
 have n0:(s = [65,66,83])=False:=eq_false (by rw [<-hs];decide)
 have n1:(s = [83,73,71,78])=False:=eq_false (by rw [<-hs];decide)
 have n2:(s = [73,78,84])=False:=eq_false (by rw [<-hs];decide)
 have n3:(s = [84,82,85,78,67])=True:=eq_true (by rw [<-hs];decide)
 have n4:(s = [82,79,85,78,68,68,79,87,78])=False:=eq_false (by rw [<-hs];decide)
 have n5:(s = [82,79,85,78,68])=False:=eq_false (by rw [<-hs];decide)
 have n6:(s = [82,79,85,78,68,85,80])=False:=eq_false (by rw [<-hs];decide)
 have n7:(s = [70,76,79,79,82])=False:=eq_false (by rw [<-hs];decide)
 have n8:(s = [67,69,73,76,73,78,71])=False:=eq_false (by rw [<-hs];decide)
 have n9:(s = [77,82,79,85,78,68])=False:=eq_false (by rw [<-hs];decide)
 have n10:(s = [77,79,68])=False:=eq_false (by rw [<-hs];decide)
 have n11:(s = [81,85,79,84,73,69,78,84])=False:=eq_false (by rw [<-hs];decide)
 have n12:(s = [80,79,87,69,82])=False:=eq_false (by rw [<-hs];decide)
 have n13:(s = [83,81,82,84])=False:=eq_false (by rw [<-hs];decide)
 have n14:(s = [70,65,67,84])=False:=eq_false (by rw [<-hs];decide)
 have n15:(s = [69,86,69,78])=False:=eq_false (by rw [<-hs];decide)
 have n16:(s = [79,68,68])=False:=eq_false (by rw [<-hs];decide)
 have n17:(s = [67,76,65,77,80])=False:=eq_false (by rw [<-hs];decide)
 have n18:(s = [71,67,68])=False:=eq_false (by rw [<-hs];decide)
 have n19:(s = [76,67,77])=False:=eq_false (by rw [<-hs];decide)
 rw [hs]
 refine rhead hl hT1 fun a1 hf=>?_
 generalize placesM (a::T)=p at *
 generalize secP (a::T) 10000=t at *
 have hX:=rtrunc_g p ha
 generalize truncG a p=t at *
 have hN:=rNum_ok t
 simp only [tellAV] at hN ⊢
 simp (disch:=first|assumption|omega|(simp only [List.length_append,List.length_cons,List.length_nil];omega)) only [go_sem,reduceCtorEq,Nat.reduceEqDiff,Nat.reduceAdd,Nat.reduceSub,Nat.reduceMul,Nat.reduceLeDiff,Int.reduceLT,Int.reduceLE,Int.reduceEq,↓reduceIte,Int.reduceNeg,Int.reduceAdd,Int.reduceSub,Int.reduceMul,true_imp_iff,forall_const,Nat.mul_one,Int.reduceToNat,Nat.reducePow,Int.reducePow,Bool.true_and,Bool.false_and,Bool.and_false,hf,hσ,n0,n1,n2,n3,n4,n5,n6,n7,n8,n9,n10,n11,n12,n13,n14,n15,n16,n17,n18,n19]
 refine hX.use ?_
 simp (disch:=first|assumption|omega|(simp only [List.length_append,List.length_cons,List.length_nil];omega)) only [go_sem,reduceCtorEq,Nat.reduceEqDiff,Nat.reduceAdd,Nat.reduceSub,Nat.reduceMul,Nat.reduceLeDiff,Int.reduceLT,Int.reduceLE,Int.reduceEq,↓reduceIte,Int.reduceNeg,Int.reduceAdd,Int.reduceSub,Int.reduceMul,true_imp_iff,forall_const,Nat.mul_one,Int.reduceToNat,Nat.reducePow,Int.reducePow,Bool.true_and,Bool.false_and,Bool.and_false,hf,hσ,ASt.set_set]
 refine hN.use ?_
 simp (disch:=first|assumption|omega|(simp only [List.length_append,List.length_cons,List.length_nil];omega)) only [go_sem,reduceCtorEq,Nat.reduceEqDiff,Nat.reduceAdd,Nat.reduceSub,Nat.reduceMul,Nat.reduceLeDiff,Int.reduceLT,Int.reduceLE,Int.reduceEq,↓reduceIte,Int.reduceNeg,Int.reduceAdd,Int.reduceSub,Int.reduceMul,true_imp_iff,forall_const,Nat.mul_one,Int.reduceToNat,Nat.reducePow,Int.reducePow,Bool.true_and,Bool.false_and,Bool.and_false,hf,hσ,ASt.set_set]
 exact retC_by (hD _) (.refl _) ⟨rfl,rfl⟩
set_option maxHeartbeats 1000000 in
theorem rk_DOWN {σ σ0:ASt} {c:Nat} {k:SK} (hσ:σ c=some (.obj [.int .i64 0,.int .i64 0,.str []])) (hD:∀ X,Drop (σ.set c X) σ0) {a:Int} {T:List Int} (hl:T.length<=900) (ha:a.natAbs<=999999999999999999) (hT1:(secP (a::T) 0).natAbs<=999999999999999999) (hT2:(secP (a::T) 10000).natAbs<=999999999999999999):∀ (a1:AFr),(a1 0 = .str sDOWN/\a1 4 = .ptr c 0/\a1 7 = .sl k ((a::T).map (AV.int .i64)))->ACode.wp Tryz.prog c12_224 (RetQ [.c 4 (some 3)] fun v σ'=>v=tellAV (PV.num (truncG a (placesM (a::T))))/\σ'=σ0) a1 σ:=by
 have hpl : -20<=placesM (a::T)/\placesM (a::T)<=20:=by unfold placesM;omega
 obtain ⟨s,hs⟩:∃ s,sDOWN=s:=⟨_,rfl⟩
 have n0:(s = [65,66,83])=False:=eq_false (by rw [<-hs];decide)
 have n1:(s = [83,73,71,78])=False:=eq_false (by rw [<-hs];decide)
 have n2:(s = [73,78,84])=False:=eq_false (by rw [<-hs];decide)
 have n3:(s = [84,82,85,78,67])=False:=eq_false (by rw [<-hs];decide)
 have n4:(s = [82,79,85,78,68,68,79,87,78])=True:=eq_true (by rw [<-hs];decide)
 have n5:(s = [82,79,85,78,68])=False:=eq_false (by rw [<-hs];decide)
 have n6:(s = [82,79,85,78,68,85,80])=False:=eq_false (by rw [<-hs];decide)
 have n7:(s = [70,76,79,79,82])=False:=eq_false (by rw [<-hs];decide)
 have n8:(s = [67,69,73,76,73,78,71])=False:=eq_false (by rw [<-hs];decide)
 have n9:(s = [77,82,79,85,78,68])=False:=eq_false (by rw [<-hs];decide)
 have n10:(s = [77,79,68])=False:=eq_false (by rw [<-hs];decide)
 have n11:(s = [81,85,79,84,73,69,78,84])=False:=eq_false (by rw [<-hs];decide)
 have n12:(s = [80,79,87,69,82])=False:=eq_false (by rw [<-hs];decide)
 have n13:(s = [83,81,82,84])=False:=eq_false (by rw [<-hs];decide)
 have n14:(s = [70,65,67,84])=False:=eq_false (by rw [<-hs];decide)
 have n15:(s = [69,86,69,78])=False:=eq_false (by rw [<-hs];decide)
 have n16:(s = [79,68,68])=False:=eq_false (by rw [<-hs];decide)
 have n17:(s = [67,76,65,77,80])=False:=eq_false (by rw [<-hs];decide)
 have n18:(s = [71,67,68])=False:=eq_false (by rw [<-hs];decide)
 have n19:(s = [76,67,77])=False:=eq_false (by rw [<-hs];decide)
 rw [hs]
 refine rhead hl hT1 fun a1 hf=>?_
 generalize placesM (a::T)=p at *
 generalize secP (a::T) 10000=t at *
 have hX:=rtrunc_g p ha
 generalize truncG a p=t at *
 have hN:=rNum_ok t
 simp only [tellAV] at hN ⊢
 simp (disch:=first|assumption|omega|(simp only [List.length_append,List.length_cons,List.length_nil];omega)) only [go_sem,reduceCtorEq,Nat.reduceEqDiff,Nat.reduceAdd,Nat.reduceSub,Nat.reduceMul,Nat.reduceLeDiff,Int.reduceLT,Int.reduceLE,Int.reduceEq,↓reduceIte,Int.reduceNeg,Int.reduceAdd,Int.reduceSub,Int.reduceMul,true_imp_iff,forall_const,Nat.mul_one,Int.reduceToNat,Nat.reducePow,Int.reducePow,Bool.true_and,Bool.false_and,Bool.and_false,hf,hσ,n0,n1,n2,n3,n4,n5,n6,n7,n8,n9,n10,n11,n12,n13,n14,n15,n16,n17,n18,n19]
 refine hX.use ?_
 simp (disch:=first|assumption|omega|(simp only [List.length_append,List.length_cons,List.length_nil];omega)) only [go_sem,reduceCtorEq,Nat.reduceEqDiff,Nat.reduceAdd,Nat.reduceSub,Nat.reduceMul,Nat.reduceLeDiff,Int.reduceLT,Int.reduceLE,Int.reduceEq,↓reduceIte,Int.reduceNeg,Int.reduceAdd,Int.reduceSub,Int.reduceMul,true_imp_iff,forall_const,Nat.mul_one,Int.reduceToNat,Nat.reducePow,Int.reducePow,Bool.true_and,Bool.false_and,Bool.and_false,hf,hσ,ASt.set_set]
 refine hN.use ?_
 simp (disch:=first|assumption|omega|(simp only [List.length_append,List.length_cons,List.length_nil];omega)) only [go_sem,reduceCtorEq,Nat.reduceEqDiff,Nat.reduceAdd,Nat.reduceSub,Nat.reduceMul,Nat.reduceLeDiff,Int.reduceLT,Int.reduceLE,Int.reduceEq,↓reduceIte,Int.reduceNeg,Int.reduceAdd,Int.reduceSub,Int.reduceMul,true_imp_iff,forall_const,Nat.mul_one,Int.reduceToNat,Nat.reducePow,Int.reducePow,Bool.true_and,Bool.false_and,Bool.and_false,hf,hσ,ASt.set_set]
 exact retC_by (hD _) (.refl _) ⟨rfl,rfl⟩
set_option maxHeartbeats 1000000 in
theorem rk_ROUND {σ σ0:ASt} {c:Nat} {k:SK} (hσ:σ c=some (.obj [.int .i64 0,.int .i64 0,.str []])) (hD:∀ X,Drop (σ.set c X) σ0) {a:Int} {T:List Int} (hl:T.length<=900) (ha:a.natAbs<=999999999999999999) (hT1:(secP (a::T) 0).natAbs<=999999999999999999) (hT2:(secP (a::T) 10000).natAbs<=999999999999999999):∀ (a1:AFr),(a1 0 = .str sROUND/\a1 4 = .ptr c 0/\a1 7 = .sl k ((a::T).map (AV.int .i64)))->ACode.wp Tryz.prog c12_224 (RetQ [.c 4 (some 3)] fun v σ'=>v=tellAV (cntP (roundG a (placesM (a::T))))/\σ'=σ0) a1 σ:=by
 have hpl : -20<=placesM (a::T)/\placesM (a::T)<=20:=by unfold placesM;omega
 obtain ⟨s,hs⟩:∃ s,sROUND=s:=⟨_,rfl⟩
 have n0:(s = [65,66,83])=False:=eq_false (by rw [<-hs];decide)
 have n1:(s = [83,73,71,78])=False:=eq_false (by rw [<-hs];decide)
 have n2:(s = [73,78,84])=False:=eq_false (by rw [<-hs];decide)
 have n3:(s = [84,82,85,78,67])=False:=eq_false (by rw [<-hs];decide)
 have n4:(s = [82,79,85,78,68,68,79,87,78])=False:=eq_false (by rw [<-hs];decide)
 have n5:(s = [82,79,85,78,68])=True:=eq_true (by rw [<-hs];decide)
 have n6:(s = [82,79,85,78,68,85,80])=False:=eq_false (by rw [<-hs];decide)
 have n7:(s = [70,76,79,79,82])=False:=eq_false (by rw [<-hs];decide)
 have n8:(s = [67,69,73,76,73,78,71])=False:=eq_false (by rw [<-hs];decide)
 have n9:(s = [77,82,79,85,78,68])=False:=eq_false (by rw [<-hs];decide)
 have n10:(s = [77,79,68])=False:=eq_false (by rw [<-hs];decide)
 have n11:(s = [81,85,79,84,73,69,78,84])=False:=eq_false (by rw [<-hs];decide)
 have n12:(s = [80,79,87,69,82])=False:=eq_false (by rw [<-hs];decide)
 have n13:(s = [83,81,82,84])=False:=eq_false (by rw [<-hs];decide)
 have n14:(s = [70,65,67,84])=False:=eq_false (by rw [<-hs];decide)
 have n15:(s = [69,86,69,78])=False:=eq_false (by rw [<-hs];decide)
 have n16:(s = [79,68,68])=False:=eq_false (by rw [<-hs];decide)
 have n17:(s = [67,76,65,77,80])=False:=eq_false (by rw [<-hs];decide)
 have n18:(s = [71,67,68])=False:=eq_false (by rw [<-hs];decide)
 have n19:(s = [76,67,77])=False:=eq_false (by rw [<-hs];decide)
 rw [hs]
 refine rhead hl hT1 fun a1 hf=>?_
 generalize placesM (a::T)=p at *
 generalize secP (a::T) 10000=t at *
 have hX:=rround_g p ha
 have hC:=r15counted_ok (roundG a p)
 obtain ⟨x1,x2,x3,ht⟩:=tell_agg (cntP (roundG a p))
 rw [ht] at hC ⊢
 clear ht
 simp only [resAV] at hX
 generalize roundG a p=D at *
 simp (disch:=first|assumption|omega|(simp only [List.length_append,List.length_cons,List.length_nil];omega)) only [go_sem,reduceCtorEq,Nat.reduceEqDiff,Nat.reduceAdd,Nat.reduceSub,Nat.reduceMul,Nat.reduceLeDiff,Int.reduceLT,Int.reduceLE,Int.reduceEq,↓reduceIte,Int.reduceNeg,Int.reduceAdd,Int.reduceSub,Int.reduceMul,true_imp_iff,forall_const,Nat.mul_one,Int.reduceToNat,Nat.reducePow,Int.reducePow,Bool.true_and,Bool.false_and,Bool.and_false,hf,hσ,n0,n1,n2,n3,n4,n5,n6,n7,n8,n9,n10,n11,n12,n13,n14,n15,n16,n17,n18,n19]
 refine hX.use ?_
 simp (disch:=first|assumption|omega|(simp only [List.length_append,List.length_cons,List.length_nil];omega)) only [go_sem,reduceCtorEq,Nat.reduceEqDiff,Nat.reduceAdd,Nat.reduceSub,Nat.reduceMul,Nat.reduceLeDiff,Int.reduceLT,Int.reduceLE,Int.reduceEq,↓reduceIte,Int.reduceNeg,Int.reduceAdd,Int.reduceSub,Int.reduceMul,true_imp_iff,forall_const,Nat.mul_one,Int.reduceToNat,Nat.reducePow,Int.reducePow,Bool.true_and,Bool.false_and,Bool.and_false,hf,hσ,ASt.set_set]
 refine hC.use ?_
 simp (disch:=first|assumption|omega|(simp only [List.length_append,List.length_cons,List.length_nil];omega)) only [go_sem,reduceCtorEq,Nat.reduceEqDiff,Nat.reduceAdd,Nat.reduceSub,Nat.reduceMul,Nat.reduceLeDiff,Int.reduceLT,Int.reduceLE,Int.reduceEq,↓reduceIte,Int.reduceNeg,Int.reduceAdd,Int.reduceSub,Int.reduceMul,true_imp_iff,forall_const,Nat.mul_one,Int.reduceToNat,Nat.reducePow,Int.reducePow,Bool.true_and,Bool.false_and,Bool.and_false,hf,hσ,ASt.set_set]
 exact retC_by (hD _) (.refl _) ⟨rfl,rfl⟩
set_option maxHeartbeats 1000000 in
theorem rk_UP {σ σ0:ASt} {c:Nat} {k:SK} (hσ:σ c=some (.obj [.int .i64 0,.int .i64 0,.str []])) (hD:∀ X,Drop (σ.set c X) σ0) {a:Int} {T:List Int} (hl:T.length<=900) (ha:a.natAbs<=999999999999999999) (hT1:(secP (a::T) 0).natAbs<=999999999999999999) (hT2:(secP (a::T) 10000).natAbs<=999999999999999999):∀ (a1:AFr),(a1 0 = .str sUP/\a1 4 = .ptr c 0/\a1 7 = .sl k ((a::T).map (AV.int .i64)))->ACode.wp Tryz.prog c12_224 (RetQ [.c 4 (some 3)] fun v σ'=>v=tellAV (awayP a (placesM (a::T)))/\σ'=σ0) a1 σ:=by
 have hpl : -20<=placesM (a::T)/\placesM (a::T)<=20:=by unfold placesM;omega
 obtain ⟨s,hs⟩:∃ s,sUP=s:=⟨_,rfl⟩
 have n0:(s = [65,66,83])=False:=eq_false (by rw [<-hs];decide)
 have n1:(s = [83,73,71,78])=False:=eq_false (by rw [<-hs];decide)
 have n2:(s = [73,78,84])=False:=eq_false (by rw [<-hs];decide)
 have n3:(s = [84,82,85,78,67])=False:=eq_false (by rw [<-hs];decide)
 have n4:(s = [82,79,85,78,68,68,79,87,78])=False:=eq_false (by rw [<-hs];decide)
 have n5:(s = [82,79,85,78,68])=False:=eq_false (by rw [<-hs];decide)
 have n6:(s = [82,79,85,78,68,85,80])=True:=eq_true (by rw [<-hs];decide)
 have n7:(s = [70,76,79,79,82])=False:=eq_false (by rw [<-hs];decide)
 have n8:(s = [67,69,73,76,73,78,71])=False:=eq_false (by rw [<-hs];decide)
 have n9:(s = [77,82,79,85,78,68])=False:=eq_false (by rw [<-hs];decide)
 have n10:(s = [77,79,68])=False:=eq_false (by rw [<-hs];decide)
 have n11:(s = [81,85,79,84,73,69,78,84])=False:=eq_false (by rw [<-hs];decide)
 have n12:(s = [80,79,87,69,82])=False:=eq_false (by rw [<-hs];decide)
 have n13:(s = [83,81,82,84])=False:=eq_false (by rw [<-hs];decide)
 have n14:(s = [70,65,67,84])=False:=eq_false (by rw [<-hs];decide)
 have n15:(s = [69,86,69,78])=False:=eq_false (by rw [<-hs];decide)
 have n16:(s = [79,68,68])=False:=eq_false (by rw [<-hs];decide)
 have n17:(s = [67,76,65,77,80])=False:=eq_false (by rw [<-hs];decide)
 have n18:(s = [71,67,68])=False:=eq_false (by rw [<-hs];decide)
 have n19:(s = [76,67,77])=False:=eq_false (by rw [<-hs];decide)
 rw [hs]
 refine rhead hl hT1 fun a1 hf=>?_
 generalize placesM (a::T)=p at *
 generalize secP (a::T) 10000=t at *
 have hX:=rup_ok ha hpl.1 hpl.2
 obtain ⟨x1,x2,x3,ht⟩:=tell_agg (awayP a p)
 rw [ht] at hX ⊢
 clear ht
 simp (disch:=first|assumption|omega|(simp only [List.length_append,List.length_cons,List.length_nil];omega)) only [go_sem,reduceCtorEq,Nat.reduceEqDiff,Nat.reduceAdd,Nat.reduceSub,Nat.reduceMul,Nat.reduceLeDiff,Int.reduceLT,Int.reduceLE,Int.reduceEq,↓reduceIte,Int.reduceNeg,Int.reduceAdd,Int.reduceSub,Int.reduceMul,true_imp_iff,forall_const,Nat.mul_one,Int.reduceToNat,Nat.reducePow,Int.reducePow,Bool.true_and,Bool.false_and,Bool.and_false,hf,hσ,n0,n1,n2,n3,n4,n5,n6,n7,n8,n9,n10,n11,n12,n13,n14,n15,n16,n17,n18,n19]
 refine hX.use ?_
 simp (disch:=first|assumption|omega|(simp only [List.length_append,List.length_cons,List.length_nil];omega)) only [go_sem,reduceCtorEq,Nat.reduceEqDiff,Nat.reduceAdd,Nat.reduceSub,Nat.reduceMul,Nat.reduceLeDiff,Int.reduceLT,Int.reduceLE,Int.reduceEq,↓reduceIte,Int.reduceNeg,Int.reduceAdd,Int.reduceSub,Int.reduceMul,true_imp_iff,forall_const,Nat.mul_one,Int.reduceToNat,Nat.reducePow,Int.reducePow,Bool.true_and,Bool.false_and,Bool.and_false,hf,hσ,ASt.set_set]
 exact retC_by (hD _) (.refl _) ⟨rfl,rfl⟩
set_option maxHeartbeats 1000000 in
theorem rk_FLOOR {σ σ0:ASt} {c:Nat} {k:SK} (hσ:σ c=some (.obj [.int .i64 0,.int .i64 0,.str []])) (hD:∀ X,Drop (σ.set c X) σ0) {a:Int} {T:List Int} (hl:T.length<=900) (ha:a.natAbs<=999999999999999999) (hT1:(secP (a::T) 0).natAbs<=999999999999999999) (hT2:(secP (a::T) 10000).natAbs<=999999999999999999):∀ (a1:AFr),(a1 0 = .str sFLOOR/\a1 4 = .ptr c 0/\a1 7 = .sl k ((a::T).map (AV.int .i64)))->ACode.wp Tryz.prog c12_224 (RetQ [.c 4 (some 3)] fun v σ'=>v=tellAV (stepV false a (secP (a::T) 10000))/\σ'=σ0) a1 σ:=by
 have hpl : -20<=placesM (a::T)/\placesM (a::T)<=20:=by unfold placesM;omega
 obtain ⟨s,hs⟩:∃ s,sFLOOR=s:=⟨_,rfl⟩
 have n0:(s = [65,66,83])=False:=eq_false (by rw [<-hs];decide)
 have n1:(s = [83,73,71,78])=False:=eq_false (by rw [<-hs];decide)
 have n2:(s = [73,78,84])=False:=eq_false (by rw [<-hs];decide)
 have n3:(s = [84,82,85,78,67])=False:=eq_false (by rw [<-hs];decide)
 have n4:(s = [82,79,85,78,68,68,79,87,78])=False:=eq_false (by rw [<-hs];decide)
 have n5:(s = [82,79,85,78,68])=False:=eq_false (by rw [<-hs];decide)
 have n6:(s = [82,79,85,78,68,85,80])=False:=eq_false (by rw [<-hs];decide)
 have n7:(s = [70,76,79,79,82])=True:=eq_true (by rw [<-hs];decide)
 have n8:(s = [67,69,73,76,73,78,71])=False:=eq_false (by rw [<-hs];decide)
 have n9:(s = [77,82,79,85,78,68])=False:=eq_false (by rw [<-hs];decide)
 have n10:(s = [77,79,68])=False:=eq_false (by rw [<-hs];decide)
 have n11:(s = [81,85,79,84,73,69,78,84])=False:=eq_false (by rw [<-hs];decide)
 have n12:(s = [80,79,87,69,82])=False:=eq_false (by rw [<-hs];decide)
 have n13:(s = [83,81,82,84])=False:=eq_false (by rw [<-hs];decide)
 have n14:(s = [70,65,67,84])=False:=eq_false (by rw [<-hs];decide)
 have n15:(s = [69,86,69,78])=False:=eq_false (by rw [<-hs];decide)
 have n16:(s = [79,68,68])=False:=eq_false (by rw [<-hs];decide)
 have n17:(s = [67,76,65,77,80])=False:=eq_false (by rw [<-hs];decide)
 have n18:(s = [71,67,68])=False:=eq_false (by rw [<-hs];decide)
 have n19:(s = [76,67,77])=False:=eq_false (by rw [<-hs];decide)
 rw [hs]
 refine rhead hl hT1 fun a1 hf=>?_
 generalize placesM (a::T)=p at *
 generalize secP (a::T) 10000=t at *
 unfold stepV
 by_cases h0:t=0
 ·rw [if_pos h0]
  have hN:=rNum_ok 0
  simp only [tellAV] at hN ⊢
  simp (disch:=first|assumption|omega|(simp only [List.length_append,List.length_cons,List.length_nil];omega)) only [go_sem,reduceCtorEq,Nat.reduceEqDiff,Nat.reduceAdd,Nat.reduceSub,Nat.reduceMul,Nat.reduceLeDiff,Int.reduceLT,Int.reduceLE,Int.reduceEq,↓reduceIte,Int.reduceNeg,Int.reduceAdd,Int.reduceSub,Int.reduceMul,true_imp_iff,forall_const,Nat.mul_one,Int.reduceToNat,Nat.reducePow,Int.reducePow,Bool.true_and,Bool.false_and,Bool.and_false,hf,hσ,h0,n0,n1,n2,n3,n4,n5,n6,n7,n8,n9,n10,n11,n12,n13,n14,n15,n16,n17,n18,n19]
  refine hN.use ?_
  simp (disch:=first|assumption|omega|(simp only [List.length_append,List.length_cons,List.length_nil];omega)) only [go_sem,reduceCtorEq,Nat.reduceEqDiff,Nat.reduceAdd,Nat.reduceSub,Nat.reduceMul,Nat.reduceLeDiff,Int.reduceLT,Int.reduceLE,Int.reduceEq,↓reduceIte,Int.reduceNeg,Int.reduceAdd,Int.reduceSub,Int.reduceMul,true_imp_iff,forall_const,Nat.mul_one,Int.reduceToNat,Nat.reducePow,Int.reducePow,Bool.true_and,Bool.false_and,Bool.and_false,hf,hσ,ASt.set_set]
  exact retC_by (hD _) (.refl _) ⟨rfl,rfl⟩
 rw [if_neg h0]
 by_cases h1:t<0
 ·rw [if_pos h1]
  have hN:=rFail_ok 2 (by omega) (by omega)
  simp only [tellAV] at hN ⊢
  simp (disch:=first|assumption|omega|(simp only [List.length_append,List.length_cons,List.length_nil];omega)) only [go_sem,reduceCtorEq,Nat.reduceEqDiff,Nat.reduceAdd,Nat.reduceSub,Nat.reduceMul,Nat.reduceLeDiff,Int.reduceLT,Int.reduceLE,Int.reduceEq,↓reduceIte,Int.reduceNeg,Int.reduceAdd,Int.reduceSub,Int.reduceMul,true_imp_iff,forall_const,Nat.mul_one,Int.reduceToNat,Nat.reducePow,Int.reducePow,Bool.true_and,Bool.false_and,Bool.and_false,hf,hσ,h0,h1,n0,n1,n2,n3,n4,n5,n6,n7,n8,n9,n10,n11,n12,n13,n14,n15,n16,n17,n18,n19]
  refine hN.use ?_
  simp (disch:=first|assumption|omega|(simp only [List.length_append,List.length_cons,List.length_nil];omega)) only [go_sem,reduceCtorEq,Nat.reduceEqDiff,Nat.reduceAdd,Nat.reduceSub,Nat.reduceMul,Nat.reduceLeDiff,Int.reduceLT,Int.reduceLE,Int.reduceEq,↓reduceIte,Int.reduceNeg,Int.reduceAdd,Int.reduceSub,Int.reduceMul,true_imp_iff,forall_const,Nat.mul_one,Int.reduceToNat,Nat.reducePow,Int.reducePow,Bool.true_and,Bool.false_and,Bool.and_false,hf,hσ,ASt.set_set]
  exact retC_by (hD _) (.refl _) ⟨rfl,rfl⟩
 rw [if_neg h1]
 simp only [Bool.false_eq_true,if_false]
 have hX:=rfloor_ok ha (show 0<t by omega) (by omega)
 have hC:=r15counted_ok (fitP (a-a % t))
 obtain ⟨x1,x2,x3,ht⟩:=tell_agg (cntP (fitP (a-a % t)))
 rw [ht] at hC ⊢
 clear ht
 simp only [resAV] at hX
 generalize fitP (a-a % t)=D at *
 simp (disch:=first|assumption|omega|(simp only [List.length_append,List.length_cons,List.length_nil];omega)) only [go_sem,reduceCtorEq,Nat.reduceEqDiff,Nat.reduceAdd,Nat.reduceSub,Nat.reduceMul,Nat.reduceLeDiff,Int.reduceLT,Int.reduceLE,Int.reduceEq,↓reduceIte,Int.reduceNeg,Int.reduceAdd,Int.reduceSub,Int.reduceMul,true_imp_iff,forall_const,Nat.mul_one,Int.reduceToNat,Nat.reducePow,Int.reducePow,Bool.true_and,Bool.false_and,Bool.and_false,hf,hσ,h0,h1,n0,n1,n2,n3,n4,n5,n6,n7,n8,n9,n10,n11,n12,n13,n14,n15,n16,n17,n18,n19]
 refine hX.use ?_
 simp (disch:=first|assumption|omega|(simp only [List.length_append,List.length_cons,List.length_nil];omega)) only [go_sem,reduceCtorEq,Nat.reduceEqDiff,Nat.reduceAdd,Nat.reduceSub,Nat.reduceMul,Nat.reduceLeDiff,Int.reduceLT,Int.reduceLE,Int.reduceEq,↓reduceIte,Int.reduceNeg,Int.reduceAdd,Int.reduceSub,Int.reduceMul,true_imp_iff,forall_const,Nat.mul_one,Int.reduceToNat,Nat.reducePow,Int.reducePow,Bool.true_and,Bool.false_and,Bool.and_false,hf,hσ,ASt.set_set]
 refine hC.use ?_
 simp (disch:=first|assumption|omega|(simp only [List.length_append,List.length_cons,List.length_nil];omega)) only [go_sem,reduceCtorEq,Nat.reduceEqDiff,Nat.reduceAdd,Nat.reduceSub,Nat.reduceMul,Nat.reduceLeDiff,Int.reduceLT,Int.reduceLE,Int.reduceEq,↓reduceIte,Int.reduceNeg,Int.reduceAdd,Int.reduceSub,Int.reduceMul,true_imp_iff,forall_const,Nat.mul_one,Int.reduceToNat,Nat.reducePow,Int.reducePow,Bool.true_and,Bool.false_and,Bool.and_false,hf,hσ,ASt.set_set]
 exact retC_by (hD _) (.refl _) ⟨rfl,rfl⟩
set_option maxHeartbeats 1000000 in
theorem rk_CEIL {σ σ0:ASt} {c:Nat} {k:SK} (hσ:σ c=some (.obj [.int .i64 0,.int .i64 0,.str []])) (hD:∀ X,Drop (σ.set c X) σ0) {a:Int} {T:List Int} (hl:T.length<=900) (ha:a.natAbs<=999999999999999999) (hT1:(secP (a::T) 0).natAbs<=999999999999999999) (hT2:(secP (a::T) 10000).natAbs<=999999999999999999):∀ (a1:AFr),(a1 0 = .str sCEIL/\a1 4 = .ptr c 0/\a1 7 = .sl k ((a::T).map (AV.int .i64)))->ACode.wp Tryz.prog c12_224 (RetQ [.c 4 (some 3)] fun v σ'=>v=tellAV (stepV true a (secP (a::T) 10000))/\σ'=σ0) a1 σ:=by
 have hpl : -20<=placesM (a::T)/\placesM (a::T)<=20:=by unfold placesM;omega
 obtain ⟨s,hs⟩:∃ s,sCEIL=s:=⟨_,rfl⟩
 have n0:(s = [65,66,83])=False:=eq_false (by rw [<-hs];decide)
 have n1:(s = [83,73,71,78])=False:=eq_false (by rw [<-hs];decide)
 have n2:(s = [73,78,84])=False:=eq_false (by rw [<-hs];decide)
 have n3:(s = [84,82,85,78,67])=False:=eq_false (by rw [<-hs];decide)
 have n4:(s = [82,79,85,78,68,68,79,87,78])=False:=eq_false (by rw [<-hs];decide)
 have n5:(s = [82,79,85,78,68])=False:=eq_false (by rw [<-hs];decide)
 have n6:(s = [82,79,85,78,68,85,80])=False:=eq_false (by rw [<-hs];decide)
 have n7:(s = [70,76,79,79,82])=False:=eq_false (by rw [<-hs];decide)
 have n8:(s = [67,69,73,76,73,78,71])=True:=eq_true (by rw [<-hs];decide)
 have n9:(s = [77,82,79,85,78,68])=False:=eq_false (by rw [<-hs];decide)
 have n10:(s = [77,79,68])=False:=eq_false (by rw [<-hs];decide)
 have n11:(s = [81,85,79,84,73,69,78,84])=False:=eq_false (by rw [<-hs];decide)
 have n12:(s = [80,79,87,69,82])=False:=eq_false (by rw [<-hs];decide)
 have n13:(s = [83,81,82,84])=False:=eq_false (by rw [<-hs];decide)
 have n14:(s = [70,65,67,84])=False:=eq_false (by rw [<-hs];decide)
 have n15:(s = [69,86,69,78])=False:=eq_false (by rw [<-hs];decide)
 have n16:(s = [79,68,68])=False:=eq_false (by rw [<-hs];decide)
 have n17:(s = [67,76,65,77,80])=False:=eq_false (by rw [<-hs];decide)
 have n18:(s = [71,67,68])=False:=eq_false (by rw [<-hs];decide)
 have n19:(s = [76,67,77])=False:=eq_false (by rw [<-hs];decide)
 rw [hs]
 refine rhead hl hT1 fun a1 hf=>?_
 generalize placesM (a::T)=p at *
 generalize secP (a::T) 10000=t at *
 unfold stepV
 by_cases h0:t=0
 ·rw [if_pos h0]
  have hN:=rNum_ok 0
  simp only [tellAV] at hN ⊢
  simp (disch:=first|assumption|omega|(simp only [List.length_append,List.length_cons,List.length_nil];omega)) only [go_sem,reduceCtorEq,Nat.reduceEqDiff,Nat.reduceAdd,Nat.reduceSub,Nat.reduceMul,Nat.reduceLeDiff,Int.reduceLT,Int.reduceLE,Int.reduceEq,↓reduceIte,Int.reduceNeg,Int.reduceAdd,Int.reduceSub,Int.reduceMul,true_imp_iff,forall_const,Nat.mul_one,Int.reduceToNat,Nat.reducePow,Int.reducePow,Bool.true_and,Bool.false_and,Bool.and_false,hf,hσ,h0,n0,n1,n2,n3,n4,n5,n6,n7,n8,n9,n10,n11,n12,n13,n14,n15,n16,n17,n18,n19]
  refine hN.use ?_
  simp (disch:=first|assumption|omega|(simp only [List.length_append,List.length_cons,List.length_nil];omega)) only [go_sem,reduceCtorEq,Nat.reduceEqDiff,Nat.reduceAdd,Nat.reduceSub,Nat.reduceMul,Nat.reduceLeDiff,Int.reduceLT,Int.reduceLE,Int.reduceEq,↓reduceIte,Int.reduceNeg,Int.reduceAdd,Int.reduceSub,Int.reduceMul,true_imp_iff,forall_const,Nat.mul_one,Int.reduceToNat,Nat.reducePow,Int.reducePow,Bool.true_and,Bool.false_and,Bool.and_false,hf,hσ,ASt.set_set]
  exact retC_by (hD _) (.refl _) ⟨rfl,rfl⟩
 rw [if_neg h0]
 by_cases h1:t<0
 ·rw [if_pos h1]
  have hN:=rFail_ok 2 (by omega) (by omega)
  simp only [tellAV] at hN ⊢
  simp (disch:=first|assumption|omega|(simp only [List.length_append,List.length_cons,List.length_nil];omega)) only [go_sem,reduceCtorEq,Nat.reduceEqDiff,Nat.reduceAdd,Nat.reduceSub,Nat.reduceMul,Nat.reduceLeDiff,Int.reduceLT,Int.reduceLE,Int.reduceEq,↓reduceIte,Int.reduceNeg,Int.reduceAdd,Int.reduceSub,Int.reduceMul,true_imp_iff,forall_const,Nat.mul_one,Int.reduceToNat,Nat.reducePow,Int.reducePow,Bool.true_and,Bool.false_and,Bool.and_false,hf,hσ,h0,h1,n0,n1,n2,n3,n4,n5,n6,n7,n8,n9,n10,n11,n12,n13,n14,n15,n16,n17,n18,n19]
  refine hN.use ?_
  simp (disch:=first|assumption|omega|(simp only [List.length_append,List.length_cons,List.length_nil];omega)) only [go_sem,reduceCtorEq,Nat.reduceEqDiff,Nat.reduceAdd,Nat.reduceSub,Nat.reduceMul,Nat.reduceLeDiff,Int.reduceLT,Int.reduceLE,Int.reduceEq,↓reduceIte,Int.reduceNeg,Int.reduceAdd,Int.reduceSub,Int.reduceMul,true_imp_iff,forall_const,Nat.mul_one,Int.reduceToNat,Nat.reducePow,Int.reducePow,Bool.true_and,Bool.false_and,Bool.and_false,hf,hσ,ASt.set_set]
  exact retC_by (hD _) (.refl _) ⟨rfl,rfl⟩
 rw [if_neg h1]
 simp only [if_true]
 have hX:=rceil_ok ha (show 0<t by omega) (by omega)
 have hC:=r15counted_ok (ceilP a t)
 obtain ⟨x1,x2,x3,ht⟩:=tell_agg (cntP (ceilP a t))
 rw [ht] at hC ⊢
 clear ht
 simp only [resAV] at hX
 generalize ceilP a t=D at *
 simp (disch:=first|assumption|omega|(simp only [List.length_append,List.length_cons,List.length_nil];omega)) only [go_sem,reduceCtorEq,Nat.reduceEqDiff,Nat.reduceAdd,Nat.reduceSub,Nat.reduceMul,Nat.reduceLeDiff,Int.reduceLT,Int.reduceLE,Int.reduceEq,↓reduceIte,Int.reduceNeg,Int.reduceAdd,Int.reduceSub,Int.reduceMul,true_imp_iff,forall_const,Nat.mul_one,Int.reduceToNat,Nat.reducePow,Int.reducePow,Bool.true_and,Bool.false_and,Bool.and_false,hf,hσ,h0,h1,n0,n1,n2,n3,n4,n5,n6,n7,n8,n9,n10,n11,n12,n13,n14,n15,n16,n17,n18,n19]
 refine hX.use ?_
 simp (disch:=first|assumption|omega|(simp only [List.length_append,List.length_cons,List.length_nil];omega)) only [go_sem,reduceCtorEq,Nat.reduceEqDiff,Nat.reduceAdd,Nat.reduceSub,Nat.reduceMul,Nat.reduceLeDiff,Int.reduceLT,Int.reduceLE,Int.reduceEq,↓reduceIte,Int.reduceNeg,Int.reduceAdd,Int.reduceSub,Int.reduceMul,true_imp_iff,forall_const,Nat.mul_one,Int.reduceToNat,Nat.reducePow,Int.reducePow,Bool.true_and,Bool.false_and,Bool.and_false,hf,hσ,ASt.set_set]
 refine hC.use ?_
 simp (disch:=first|assumption|omega|(simp only [List.length_append,List.length_cons,List.length_nil];omega)) only [go_sem,reduceCtorEq,Nat.reduceEqDiff,Nat.reduceAdd,Nat.reduceSub,Nat.reduceMul,Nat.reduceLeDiff,Int.reduceLT,Int.reduceLE,Int.reduceEq,↓reduceIte,Int.reduceNeg,Int.reduceAdd,Int.reduceSub,Int.reduceMul,true_imp_iff,forall_const,Nat.mul_one,Int.reduceToNat,Nat.reducePow,Int.reducePow,Bool.true_and,Bool.false_and,Bool.and_false,hf,hσ,ASt.set_set]
 exact retC_by (hD _) (.refl _) ⟨rfl,rfl⟩
set_option maxHeartbeats 1000000 in
theorem rk_MROUND {σ σ0:ASt} {c:Nat} {k:SK} (hσ:σ c=some (.obj [.int .i64 0,.int .i64 0,.str []])) (hD:∀ X,Drop (σ.set c X) σ0) {a b:Int} (ha:a.natAbs<=999999999999999999) (hb:b.natAbs<=999999999999999999):∀ (a1:AFr),(a1 0 = .str sMROUND/\a1 4 = .ptr c 0/\a1 7 = .sl k (([a,b]).map (AV.int .i64)))->ACode.wp Tryz.prog c12_224 (RetQ [.c 4 (some 3)] fun v σ'=>v=tellAV (nearV a b)/\σ'=σ0) a1 σ:=by
 obtain ⟨s,hs⟩:∃ s,sMROUND=s:=⟨_,rfl⟩
 have n0:(s = [65,66,83])=False:=eq_false (by rw [<-hs];decide)
 have n1:(s = [83,73,71,78])=False:=eq_false (by rw [<-hs];decide)
 have n2:(s = [73,78,84])=False:=eq_false (by rw [<-hs];decide)
 have n3:(s = [84,82,85,78,67])=False:=eq_false (by rw [<-hs];decide)
 have n4:(s = [82,79,85,78,68,68,79,87,78])=False:=eq_false (by rw [<-hs];decide)
 have n5:(s = [82,79,85,78,68])=False:=eq_false (by rw [<-hs];decide)
 have n6:(s = [82,79,85,78,68,85,80])=False:=eq_false (by rw [<-hs];decide)
 have n7:(s = [70,76,79,79,82])=False:=eq_false (by rw [<-hs];decide)
 have n8:(s = [67,69,73,76,73,78,71])=False:=eq_false (by rw [<-hs];decide)
 have n9:(s = [77,82,79,85,78,68])=True:=eq_true (by rw [<-hs];decide)
 have n10:(s = [77,79,68])=False:=eq_false (by rw [<-hs];decide)
 have n11:(s = [81,85,79,84,73,69,78,84])=False:=eq_false (by rw [<-hs];decide)
 have n12:(s = [80,79,87,69,82])=False:=eq_false (by rw [<-hs];decide)
 have n13:(s = [83,81,82,84])=False:=eq_false (by rw [<-hs];decide)
 have n14:(s = [70,65,67,84])=False:=eq_false (by rw [<-hs];decide)
 have n15:(s = [69,86,69,78])=False:=eq_false (by rw [<-hs];decide)
 have n16:(s = [79,68,68])=False:=eq_false (by rw [<-hs];decide)
 have n17:(s = [67,76,65,77,80])=False:=eq_false (by rw [<-hs];decide)
 have n18:(s = [71,67,68])=False:=eq_false (by rw [<-hs];decide)
 have n19:(s = [76,67,77])=False:=eq_false (by rw [<-hs];decide)
 rw [hs]
 refine rhead (by simp) hb fun a1 hf=>?_
 change (a1 0 = .str s/\a1 4 = .ptr c 0/\a1 7 = .sl k ([a,b].map (AV.int .i64))/\a1 12 = .int .i64 a/\a1 13 = .int .i64 (placesM [a,b])/\a1 14 = .int .i64 b) at hf
 simp only [List.map_cons,List.map_nil] at hf
 unfold nearV
 by_cases h0:b=0
 ·rw [if_pos h0]
  have hN:=rNum_ok 0
  simp only [tellAV] at hN ⊢
  simp (disch:=first|assumption|omega|(simp only [List.length_append,List.length_cons,List.length_nil];omega)) only [go_sem,reduceCtorEq,Nat.reduceEqDiff,Nat.reduceAdd,Nat.reduceSub,Nat.reduceMul,Nat.reduceLeDiff,Int.reduceLT,Int.reduceLE,Int.reduceEq,↓reduceIte,Int.reduceNeg,Int.reduceAdd,Int.reduceSub,Int.reduceMul,true_imp_iff,forall_const,Nat.mul_one,Int.reduceToNat,Nat.reducePow,Int.reducePow,Bool.true_and,Bool.false_and,Bool.and_false,hf,hσ,h0,n0,n1,n2,n3,n4,n5,n6,n7,n8,n9,n10,n11,n12,n13,n14,n15,n16,n17,n18,n19]
  refine hN.use ?_
  simp (disch:=first|assumption|omega|(simp only [List.length_append,List.length_cons,List.length_nil];omega)) only [go_sem,reduceCtorEq,Nat.reduceEqDiff,Nat.reduceAdd,Nat.reduceSub,Nat.reduceMul,Nat.reduceLeDiff,Int.reduceLT,Int.reduceLE,Int.reduceEq,↓reduceIte,Int.reduceNeg,Int.reduceAdd,Int.reduceSub,Int.reduceMul,true_imp_iff,forall_const,Nat.mul_one,Int.reduceToNat,Nat.reducePow,Int.reducePow,Bool.true_and,Bool.false_and,Bool.and_false,hf,hσ,ASt.set_set]
  exact retC_by (hD _) (.refl _) ⟨rfl,rfl⟩
 rw [if_neg h0]
 have hF:=rFail_ok 2 (by omega) (by omega)
 have hSa:=rsize_ok a ha
 have hSb:=rsize_ok b hb
 obtain ⟨A,hA⟩:∃ A:Nat,a.natAbs=A:=⟨_,rfl⟩
 obtain ⟨B,hB⟩:∃ B:Nat,b.natAbs=B:=⟨_,rfl⟩
 rw [hA] at hSa ha ⊢
 rw [hB] at hSb hb ⊢
 have eA:IntKind.i64.wrap (A:Int)=A:=by rw [IntKind.wrap_i64];omega
 have eB:IntKind.i64.wrap (B:Int)=B:=by rw [IntKind.wrap_i64];omega
 have hNe:=rnear_ok (A:=A) (S:=B) ha hb (by omega)
 have hle:=fun q => @nearO_le A B q ha (by omega)
 have hC:=fun o=>r15counted_ok o
 generalize nearO (A:Int) (B:Int)=W at *
 obtain ⟨V,hV⟩:∃ V,tellAV (cntP (Option.map (fun n=>if a<0 then -n else n) W))=V:=⟨_,rfl⟩
 obtain ⟨F,hF'⟩:∃ F,F=ACode.wp Tryz.prog c12_121:=⟨_,rfl⟩
 have hgo:∀ a0:AFr,(a0 4 = .ptr c 0/\a0 12 = .int .i64 a/\a0 14 = .int .i64 b)->F (BlockQ 2 (SeqQ (ACode.wp Tryz.prog c12_219) (RetQ [.c 4 (some 3)] fun v σ'=>v=V/\σ'=σ0))) a0 σ:=by
  intro a0 hf
  rw [hF',← hV]
  cases W with
  | none=>
    have k:=hC none
    simp only [Option.map_none]
    simp only [resAV,Option.getD_none,Option.isSome_none] at hNe k
    obtain ⟨x1,x2,x3,ht⟩:=tell_agg (cntP none)
    rw [ht] at k ⊢
    clear ht
    simp (disch:=first|assumption|omega|(simp only [List.length_append,List.length_cons,List.length_nil];omega)) only [go_sem,reduceCtorEq,Nat.reduceEqDiff,Nat.reduceAdd,Nat.reduceSub,Nat.reduceMul,Nat.reduceLeDiff,Int.reduceLT,Int.reduceLE,Int.reduceEq,↓reduceIte,Int.reduceNeg,Int.reduceAdd,Int.reduceSub,Int.reduceMul,true_imp_iff,forall_const,Nat.mul_one,Int.reduceToNat,Nat.reducePow,Int.reducePow,Bool.true_and,Bool.false_and,Bool.and_false,hf,eA,eB]
    refine hSa.use ?_
    simp (disch:=first|assumption|omega|(simp only [List.length_append,List.length_cons,List.length_nil];omega)) only [go_sem,reduceCtorEq,Nat.reduceEqDiff,Nat.reduceAdd,Nat.reduceSub,Nat.reduceMul,Nat.reduceLeDiff,Int.reduceLT,Int.reduceLE,Int.reduceEq,↓reduceIte,Int.reduceNeg,Int.reduceAdd,Int.reduceSub,Int.reduceMul,true_imp_iff,forall_const,Nat.mul_one,Int.reduceToNat,Nat.reducePow,Int.reducePow,Bool.true_and,Bool.false_and,Bool.and_false,hf,eA,eB]
    refine hSb.use ?_
    simp (disch:=first|assumption|omega|(simp only [List.length_append,List.length_cons,List.length_nil];omega)) only [go_sem,reduceCtorEq,Nat.reduceEqDiff,Nat.reduceAdd,Nat.reduceSub,Nat.reduceMul,Nat.reduceLeDiff,Int.reduceLT,Int.reduceLE,Int.reduceEq,↓reduceIte,Int.reduceNeg,Int.reduceAdd,Int.reduceSub,Int.reduceMul,true_imp_iff,forall_const,Nat.mul_one,Int.reduceToNat,Nat.reducePow,Int.reducePow,Bool.true_and,Bool.false_and,Bool.and_false,hf,eA,eB]
    refine hNe.use ?_
    by_cases h4:a<0
    ·simp (disch:=first|assumption|omega|(simp only [List.length_append,List.length_cons,List.length_nil];omega)) only [go_sem,reduceCtorEq,Nat.reduceEqDiff,Nat.reduceAdd,Nat.reduceSub,Nat.reduceMul,Nat.reduceLeDiff,Int.reduceLT,Int.reduceLE,Int.reduceEq,↓reduceIte,Int.reduceNeg,Int.reduceAdd,Int.reduceSub,Int.reduceMul,true_imp_iff,forall_const,Nat.mul_one,Int.reduceToNat,Nat.reducePow,Int.reducePow,Bool.true_and,Bool.false_and,Bool.and_false,hf,h4]
     refine k.use ?_
     simp (disch:=first|assumption|omega|(simp only [List.length_append,List.length_cons,List.length_nil];omega)) only [go_sem,reduceCtorEq,Nat.reduceEqDiff,Nat.reduceAdd,Nat.reduceSub,Nat.reduceMul,Nat.reduceLeDiff,Int.reduceLT,Int.reduceLE,Int.reduceEq,↓reduceIte,Int.reduceNeg,Int.reduceAdd,Int.reduceSub,Int.reduceMul,true_imp_iff,forall_const,Nat.mul_one,Int.reduceToNat,Nat.reducePow,Int.reducePow,Bool.true_and,Bool.false_and,Bool.and_false,hf,hσ,ASt.set_set]
     exact retC_by (hD _) (.refl _) ⟨rfl,rfl⟩
    ·simp (disch:=first|assumption|omega|(simp only [List.length_append,List.length_cons,List.length_nil];omega)) only [go_sem,reduceCtorEq,Nat.reduceEqDiff,Nat.reduceAdd,Nat.reduceSub,Nat.reduceMul,Nat.reduceLeDiff,Int.reduceLT,Int.reduceLE,Int.reduceEq,↓reduceIte,Int.reduceNeg,Int.reduceAdd,Int.reduceSub,Int.reduceMul,true_imp_iff,forall_const,Nat.mul_one,Int.reduceToNat,Nat.reducePow,Int.reducePow,Bool.true_and,Bool.false_and,Bool.and_false,hf,h4]
     refine k.use ?_
     simp (disch:=first|assumption|omega|(simp only [List.length_append,List.length_cons,List.length_nil];omega)) only [go_sem,reduceCtorEq,Nat.reduceEqDiff,Nat.reduceAdd,Nat.reduceSub,Nat.reduceMul,Nat.reduceLeDiff,Int.reduceLT,Int.reduceLE,Int.reduceEq,↓reduceIte,Int.reduceNeg,Int.reduceAdd,Int.reduceSub,Int.reduceMul,true_imp_iff,forall_const,Nat.mul_one,Int.reduceToNat,Nat.reducePow,Int.reducePow,Bool.true_and,Bool.false_and,Bool.and_false,hf,hσ,ASt.set_set]
     exact retC_by (hD _) (.refl _) ⟨rfl,rfl⟩
  | some q=>
    have hq:=hle q rfl
    simp only [Option.map_some]
    simp only [resAV,Option.getD_some,Option.isSome_some] at hNe
    obtain ⟨u,hu⟩:∃ u,(if a<0 then -q else q)=u:=⟨_,rfl⟩
    rw [hu]
    have k:=hC (some u)
    simp only [Option.getD_some,Option.isSome_some] at k
    obtain ⟨x1,x2,x3,ht⟩:=tell_agg (cntP (some u))
    rw [ht] at k ⊢
    clear ht
    simp (disch:=first|assumption|omega|(simp only [List.length_append,List.length_cons,List.length_nil];omega)) only [go_sem,reduceCtorEq,Nat.reduceEqDiff,Nat.reduceAdd,Nat.reduceSub,Nat.reduceMul,Nat.reduceLeDiff,Int.reduceLT,Int.reduceLE,Int.reduceEq,↓reduceIte,Int.reduceNeg,Int.reduceAdd,Int.reduceSub,Int.reduceMul,true_imp_iff,forall_const,Nat.mul_one,Int.reduceToNat,Nat.reducePow,Int.reducePow,Bool.true_and,Bool.false_and,Bool.and_false,hf,eA,eB]
    refine hSa.use ?_
    simp (disch:=first|assumption|omega|(simp only [List.length_append,List.length_cons,List.length_nil];omega)) only [go_sem,reduceCtorEq,Nat.reduceEqDiff,Nat.reduceAdd,Nat.reduceSub,Nat.reduceMul,Nat.reduceLeDiff,Int.reduceLT,Int.reduceLE,Int.reduceEq,↓reduceIte,Int.reduceNeg,Int.reduceAdd,Int.reduceSub,Int.reduceMul,true_imp_iff,forall_const,Nat.mul_one,Int.reduceToNat,Nat.reducePow,Int.reducePow,Bool.true_and,Bool.false_and,Bool.and_false,hf,eA,eB]
    refine hSb.use ?_
    simp (disch:=first|assumption|omega|(simp only [List.length_append,List.length_cons,List.length_nil];omega)) only [go_sem,reduceCtorEq,Nat.reduceEqDiff,Nat.reduceAdd,Nat.reduceSub,Nat.reduceMul,Nat.reduceLeDiff,Int.reduceLT,Int.reduceLE,Int.reduceEq,↓reduceIte,Int.reduceNeg,Int.reduceAdd,Int.reduceSub,Int.reduceMul,true_imp_iff,forall_const,Nat.mul_one,Int.reduceToNat,Nat.reducePow,Int.reducePow,Bool.true_and,Bool.false_and,Bool.and_false,hf,eA,eB]
    refine hNe.use ?_
    by_cases h4:a<0
    ·rw [if_pos h4] at hu
     have e:0-q=u:=by omega
     simp (disch:=first|assumption|omega|(simp only [List.length_append,List.length_cons,List.length_nil];omega)) only [go_sem,reduceCtorEq,Nat.reduceEqDiff,Nat.reduceAdd,Nat.reduceSub,Nat.reduceMul,Nat.reduceLeDiff,Int.reduceLT,Int.reduceLE,Int.reduceEq,↓reduceIte,Int.reduceNeg,Int.reduceAdd,Int.reduceSub,Int.reduceMul,true_imp_iff,forall_const,Nat.mul_one,Int.reduceToNat,Nat.reducePow,Int.reducePow,Bool.true_and,Bool.false_and,Bool.and_false,hf,h4,e]
     refine k.use ?_
     simp (disch:=first|assumption|omega|(simp only [List.length_append,List.length_cons,List.length_nil];omega)) only [go_sem,reduceCtorEq,Nat.reduceEqDiff,Nat.reduceAdd,Nat.reduceSub,Nat.reduceMul,Nat.reduceLeDiff,Int.reduceLT,Int.reduceLE,Int.reduceEq,↓reduceIte,Int.reduceNeg,Int.reduceAdd,Int.reduceSub,Int.reduceMul,true_imp_iff,forall_const,Nat.mul_one,Int.reduceToNat,Nat.reducePow,Int.reducePow,Bool.true_and,Bool.false_and,Bool.and_false,hf,hσ,ASt.set_set]
     exact retC_by (hD _) (.refl _) ⟨rfl,rfl⟩
    ·rw [if_neg h4] at hu
     rw [<-hu] at k
     simp (disch:=first|assumption|omega|(simp only [List.length_append,List.length_cons,List.length_nil];omega)) only [go_sem,reduceCtorEq,Nat.reduceEqDiff,Nat.reduceAdd,Nat.reduceSub,Nat.reduceMul,Nat.reduceLeDiff,Int.reduceLT,Int.reduceLE,Int.reduceEq,↓reduceIte,Int.reduceNeg,Int.reduceAdd,Int.reduceSub,Int.reduceMul,true_imp_iff,forall_const,Nat.mul_one,Int.reduceToNat,Nat.reducePow,Int.reducePow,Bool.true_and,Bool.false_and,Bool.and_false,hf,h4]
     refine k.use ?_
     simp (disch:=first|assumption|omega|(simp only [List.length_append,List.length_cons,List.length_nil];omega)) only [go_sem,reduceCtorEq,Nat.reduceEqDiff,Nat.reduceAdd,Nat.reduceSub,Nat.reduceMul,Nat.reduceLeDiff,Int.reduceLT,Int.reduceLE,Int.reduceEq,↓reduceIte,Int.reduceNeg,Int.reduceAdd,Int.reduceSub,Int.reduceMul,true_imp_iff,forall_const,Nat.mul_one,Int.reduceToNat,Nat.reducePow,Int.reducePow,Bool.true_and,Bool.false_and,Bool.and_false,hf,hσ,ASt.set_set]
     exact retC_by (hD _) (.refl _) ⟨rfl,rfl⟩
 by_cases h1:a<0
 ·by_cases h2:0<b
  ·rw [if_pos ⟨by omega,by rw [decide_eq_true h1,decide_eq_false (by omega)];simp⟩]
   simp only [tellAV] at hF ⊢
   simp (disch:=first|assumption|omega|(simp only [List.length_append,List.length_cons,List.length_nil];omega)) only [go_sem,reduceCtorEq,Nat.reduceEqDiff,Nat.reduceAdd,Nat.reduceSub,Nat.reduceMul,Nat.reduceLeDiff,Int.reduceLT,Int.reduceLE,Int.reduceEq,↓reduceIte,Int.reduceNeg,Int.reduceAdd,Int.reduceSub,Int.reduceMul,true_imp_iff,forall_const,Nat.mul_one,Int.reduceToNat,Nat.reducePow,Int.reducePow,Bool.true_and,Bool.false_and,Bool.and_false,hf,hσ,h0,h1,h2,←hF',n0,n1,n2,n3,n4,n5,n6,n7,n8,n9,n10,n11,n12,n13,n14,n15,n16,n17,n18,n19]
   refine hF.use ?_
   simp (disch:=first|assumption|omega|(simp only [List.length_append,List.length_cons,List.length_nil];omega)) only [go_sem,reduceCtorEq,Nat.reduceEqDiff,Nat.reduceAdd,Nat.reduceSub,Nat.reduceMul,Nat.reduceLeDiff,Int.reduceLT,Int.reduceLE,Int.reduceEq,↓reduceIte,Int.reduceNeg,Int.reduceAdd,Int.reduceSub,Int.reduceMul,true_imp_iff,forall_const,Nat.mul_one,Int.reduceToNat,Nat.reducePow,Int.reducePow,Bool.true_and,Bool.false_and,Bool.and_false,hf,hσ,ASt.set_set]
   exact retC_by (hD _) (.refl _) ⟨rfl,rfl⟩
  ·rw [if_neg (fun h=>h.2 (by rw [decide_eq_true h1,decide_eq_true (show b<0 by omega)])),hV]
   have h3:¬ 0<a:=by omega
   simp (disch:=first|assumption|omega|(simp only [List.length_append,List.length_cons,List.length_nil];omega)) only [go_sem,reduceCtorEq,Nat.reduceEqDiff,Nat.reduceAdd,Nat.reduceSub,Nat.reduceMul,Nat.reduceLeDiff,Int.reduceLT,Int.reduceLE,Int.reduceEq,↓reduceIte,Int.reduceNeg,Int.reduceAdd,Int.reduceSub,Int.reduceMul,true_imp_iff,forall_const,Nat.mul_one,Int.reduceToNat,Nat.reducePow,Int.reducePow,Bool.true_and,Bool.false_and,Bool.and_false,hf,hσ,h0,h1,h2,h3,←hF',n0,n1,n2,n3,n4,n5,n6,n7,n8,n9,n10,n11,n12,n13,n14,n15,n16,n17,n18,n19]
   refine hgo _ ?_
   simp (disch:=first|assumption|omega|(simp only [List.length_append,List.length_cons,List.length_nil];omega)) only [go_sem,reduceCtorEq,Nat.reduceEqDiff,Nat.reduceAdd,Nat.reduceSub,Nat.reduceMul,Nat.reduceLeDiff,Int.reduceLT,Int.reduceLE,Int.reduceEq,↓reduceIte,Int.reduceNeg,Int.reduceAdd,Int.reduceSub,Int.reduceMul,true_imp_iff,forall_const,Nat.mul_one,Int.reduceToNat,Nat.reducePow,Int.reducePow,Bool.true_and,Bool.false_and,Bool.and_false,hf]
 ·by_cases h3:0<a
  ·by_cases h2:b<0
   ·rw [if_pos ⟨by omega,by rw [decide_eq_false h1,decide_eq_true h2];simp⟩]
    simp only [tellAV] at hF ⊢
    simp (disch:=first|assumption|omega|(simp only [List.length_append,List.length_cons,List.length_nil];omega)) only [go_sem,reduceCtorEq,Nat.reduceEqDiff,Nat.reduceAdd,Nat.reduceSub,Nat.reduceMul,Nat.reduceLeDiff,Int.reduceLT,Int.reduceLE,Int.reduceEq,↓reduceIte,Int.reduceNeg,Int.reduceAdd,Int.reduceSub,Int.reduceMul,true_imp_iff,forall_const,Nat.mul_one,Int.reduceToNat,Nat.reducePow,Int.reducePow,Bool.true_and,Bool.false_and,Bool.and_false,hf,hσ,h0,h1,h2,h3,←hF',n0,n1,n2,n3,n4,n5,n6,n7,n8,n9,n10,n11,n12,n13,n14,n15,n16,n17,n18,n19]
    refine hF.use ?_
    simp (disch:=first|assumption|omega|(simp only [List.length_append,List.length_cons,List.length_nil];omega)) only [go_sem,reduceCtorEq,Nat.reduceEqDiff,Nat.reduceAdd,Nat.reduceSub,Nat.reduceMul,Nat.reduceLeDiff,Int.reduceLT,Int.reduceLE,Int.reduceEq,↓reduceIte,Int.reduceNeg,Int.reduceAdd,Int.reduceSub,Int.reduceMul,true_imp_iff,forall_const,Nat.mul_one,Int.reduceToNat,Nat.reducePow,Int.reducePow,Bool.true_and,Bool.false_and,Bool.and_false,hf,hσ,ASt.set_set]
    exact retC_by (hD _) (.refl _) ⟨rfl,rfl⟩
   ·rw [if_neg (fun h=>h.2 (by rw [decide_eq_false h1,decide_eq_false h2])),hV]
    simp (disch:=first|assumption|omega|(simp only [List.length_append,List.length_cons,List.length_nil];omega)) only [go_sem,reduceCtorEq,Nat.reduceEqDiff,Nat.reduceAdd,Nat.reduceSub,Nat.reduceMul,Nat.reduceLeDiff,Int.reduceLT,Int.reduceLE,Int.reduceEq,↓reduceIte,Int.reduceNeg,Int.reduceAdd,Int.reduceSub,Int.reduceMul,true_imp_iff,forall_const,Nat.mul_one,Int.reduceToNat,Nat.reducePow,Int.reducePow,Bool.true_and,Bool.false_and,Bool.and_false,hf,hσ,h0,h1,h2,h3,←hF',n0,n1,n2,n3,n4,n5,n6,n7,n8,n9,n10,n11,n12,n13,n14,n15,n16,n17,n18,n19]
    refine hgo _ ?_
    simp (disch:=first|assumption|omega|(simp only [List.length_append,List.length_cons,List.length_nil];omega)) only [go_sem,reduceCtorEq,Nat.reduceEqDiff,Nat.reduceAdd,Nat.reduceSub,Nat.reduceMul,Nat.reduceLeDiff,Int.reduceLT,Int.reduceLE,Int.reduceEq,↓reduceIte,Int.reduceNeg,Int.reduceAdd,Int.reduceSub,Int.reduceMul,true_imp_iff,forall_const,Nat.mul_one,Int.reduceToNat,Nat.reducePow,Int.reducePow,Bool.true_and,Bool.false_and,Bool.and_false,hf]
  ·rw [if_neg (fun h=>h.1 (by omega)),hV]
   simp (disch:=first|assumption|omega|(simp only [List.length_append,List.length_cons,List.length_nil];omega)) only [go_sem,reduceCtorEq,Nat.reduceEqDiff,Nat.reduceAdd,Nat.reduceSub,Nat.reduceMul,Nat.reduceLeDiff,Int.reduceLT,Int.reduceLE,Int.reduceEq,↓reduceIte,Int.reduceNeg,Int.reduceAdd,Int.reduceSub,Int.reduceMul,true_imp_iff,forall_const,Nat.mul_one,Int.reduceToNat,Nat.reducePow,Int.reducePow,Bool.true_and,Bool.false_and,Bool.and_false,hf,hσ,h0,h1,h3,←hF',n0,n1,n2,n3,n4,n5,n6,n7,n8,n9,n10,n11,n12,n13,n14,n15,n16,n17,n18,n19]
   refine hgo _ ?_
   simp (disch:=first|assumption|omega|(simp only [List.length_append,List.length_cons,List.length_nil];omega)) only [go_sem,reduceCtorEq,Nat.reduceEqDiff,Nat.reduceAdd,Nat.reduceSub,Nat.reduceMul,Nat.reduceLeDiff,Int.reduceLT,Int.reduceLE,Int.reduceEq,↓reduceIte,Int.reduceNeg,Int.reduceAdd,Int.reduceSub,Int.reduceMul,true_imp_iff,forall_const,Nat.mul_one,Int.reduceToNat,Nat.reducePow,Int.reducePow,Bool.true_and,Bool.false_and,Bool.and_false,hf]
set_option maxHeartbeats 1000000 in
theorem rk_MOD {σ σ0:ASt} {c:Nat} {k:SK} (hσ:σ c=some (.obj [.int .i64 0,.int .i64 0,.str []])) (hD:∀ X,Drop (σ.set c X) σ0) {a b:Int} (ha:a.natAbs<=999999999999999999) (hb:b.natAbs<=999999999999999999):∀ (a1:AFr),(a1 0 = .str sMOD/\a1 4 = .ptr c 0/\a1 7 = .sl k (([a,b]).map (AV.int .i64)))->ACode.wp Tryz.prog c12_224 (RetQ [.c 4 (some 3)] fun v σ'=>v=tellAV (modV a b)/\σ'=σ0) a1 σ:=by
 obtain ⟨s,hs⟩:∃ s,sMOD=s:=⟨_,rfl⟩
 have n0:(s = [65,66,83])=False:=eq_false (by rw [<-hs];decide)
 have n1:(s = [83,73,71,78])=False:=eq_false (by rw [<-hs];decide)
 have n2:(s = [73,78,84])=False:=eq_false (by rw [<-hs];decide)
 have n3:(s = [84,82,85,78,67])=False:=eq_false (by rw [<-hs];decide)
 have n4:(s = [82,79,85,78,68,68,79,87,78])=False:=eq_false (by rw [<-hs];decide)
 have n5:(s = [82,79,85,78,68])=False:=eq_false (by rw [<-hs];decide)
 have n6:(s = [82,79,85,78,68,85,80])=False:=eq_false (by rw [<-hs];decide)
 have n7:(s = [70,76,79,79,82])=False:=eq_false (by rw [<-hs];decide)
 have n8:(s = [67,69,73,76,73,78,71])=False:=eq_false (by rw [<-hs];decide)
 have n9:(s = [77,82,79,85,78,68])=False:=eq_false (by rw [<-hs];decide)
 have n10:(s = [77,79,68])=True:=eq_true (by rw [<-hs];decide)
 have n11:(s = [81,85,79,84,73,69,78,84])=False:=eq_false (by rw [<-hs];decide)
 have n12:(s = [80,79,87,69,82])=False:=eq_false (by rw [<-hs];decide)
 have n13:(s = [83,81,82,84])=False:=eq_false (by rw [<-hs];decide)
 have n14:(s = [70,65,67,84])=False:=eq_false (by rw [<-hs];decide)
 have n15:(s = [69,86,69,78])=False:=eq_false (by rw [<-hs];decide)
 have n16:(s = [79,68,68])=False:=eq_false (by rw [<-hs];decide)
 have n17:(s = [67,76,65,77,80])=False:=eq_false (by rw [<-hs];decide)
 have n18:(s = [71,67,68])=False:=eq_false (by rw [<-hs];decide)
 have n19:(s = [76,67,77])=False:=eq_false (by rw [<-hs];decide)
 rw [hs]
 refine rhead (by simp) hb fun a1 hf=>?_
 change (a1 0 = .str s/\a1 4 = .ptr c 0/\a1 7 = .sl k ([a,b].map (AV.int .i64))/\a1 12 = .int .i64 a/\a1 13 = .int .i64 (placesM [a,b])/\a1 14 = .int .i64 b) at hf
 simp only [List.map_cons,List.map_nil] at hf
 unfold modV
 by_cases h0:b=0
 ·rw [if_pos h0]
  have hN:=rFail_ok 1 (by omega) (by omega)
  simp only [tellAV] at hN ⊢
  simp (disch:=first|assumption|omega|(simp only [List.length_append,List.length_cons,List.length_nil];omega)) only [go_sem,reduceCtorEq,Nat.reduceEqDiff,Nat.reduceAdd,Nat.reduceSub,Nat.reduceMul,Nat.reduceLeDiff,Int.reduceLT,Int.reduceLE,Int.reduceEq,↓reduceIte,Int.reduceNeg,Int.reduceAdd,Int.reduceSub,Int.reduceMul,true_imp_iff,forall_const,Nat.mul_one,Int.reduceToNat,Nat.reducePow,Int.reducePow,Bool.true_and,Bool.false_and,Bool.and_false,hf,hσ,h0,n0,n1,n2,n3,n4,n5,n6,n7,n8,n9,n10,n11,n12,n13,n14,n15,n16,n17,n18,n19]
  refine hN.use ?_
  simp (disch:=first|assumption|omega|(simp only [List.length_append,List.length_cons,List.length_nil];omega)) only [go_sem,reduceCtorEq,Nat.reduceEqDiff,Nat.reduceAdd,Nat.reduceSub,Nat.reduceMul,Nat.reduceLeDiff,Int.reduceLT,Int.reduceLE,Int.reduceEq,↓reduceIte,Int.reduceNeg,Int.reduceAdd,Int.reduceSub,Int.reduceMul,true_imp_iff,forall_const,Nat.mul_one,Int.reduceToNat,Nat.reducePow,Int.reducePow,Bool.true_and,Bool.false_and,Bool.and_false,hf,hσ,ASt.set_set]
  exact retC_by (hD _) (.refl _) ⟨rfl,rfl⟩
 rw [if_neg h0]
 have hX:=rmod_g ha hb h0
 generalize modG a b=m at *
 have hN:=rNum_ok m
 simp only [tellAV] at hN ⊢
 simp (disch:=first|assumption|omega|(simp only [List.length_append,List.length_cons,List.length_nil];omega)) only [go_sem,reduceCtorEq,Nat.reduceEqDiff,Nat.reduceAdd,Nat.reduceSub,Nat.reduceMul,Nat.reduceLeDiff,Int.reduceLT,Int.reduceLE,Int.reduceEq,↓reduceIte,Int.reduceNeg,Int.reduceAdd,Int.reduceSub,Int.reduceMul,true_imp_iff,forall_const,Nat.mul_one,Int.reduceToNat,Nat.reducePow,Int.reducePow,Bool.true_and,Bool.false_and,Bool.and_false,hf,hσ,h0,n0,n1,n2,n3,n4,n5,n6,n7,n8,n9,n10,n11,n12,n13,n14,n15,n16,n17,n18,n19]
 refine hX.use ?_
 simp (disch:=first|assumption|omega|(simp only [List.length_append,List.length_cons,List.length_nil];omega)) only [go_sem,reduceCtorEq,Nat.reduceEqDiff,Nat.reduceAdd,Nat.reduceSub,Nat.reduceMul,Nat.reduceLeDiff,Int.reduceLT,Int.reduceLE,Int.reduceEq,↓reduceIte,Int.reduceNeg,Int.reduceAdd,Int.reduceSub,Int.reduceMul,true_imp_iff,forall_const,Nat.mul_one,Int.reduceToNat,Nat.reducePow,Int.reducePow,Bool.true_and,Bool.false_and,Bool.and_false,hf,hσ,ASt.set_set]
 refine hN.use ?_
 simp (disch:=first|assumption|omega|(simp only [List.length_append,List.length_cons,List.length_nil];omega)) only [go_sem,reduceCtorEq,Nat.reduceEqDiff,Nat.reduceAdd,Nat.reduceSub,Nat.reduceMul,Nat.reduceLeDiff,Int.reduceLT,Int.reduceLE,Int.reduceEq,↓reduceIte,Int.reduceNeg,Int.reduceAdd,Int.reduceSub,Int.reduceMul,true_imp_iff,forall_const,Nat.mul_one,Int.reduceToNat,Nat.reducePow,Int.reducePow,Bool.true_and,Bool.false_and,Bool.and_false,hf,hσ,ASt.set_set]
 exact retC_by (hD _) (.refl _) ⟨rfl,rfl⟩
set_option maxHeartbeats 1000000 in
theorem rk_QUOT {σ σ0:ASt} {c:Nat} {k:SK} (hσ:σ c=some (.obj [.int .i64 0,.int .i64 0,.str []])) (hD:∀ X,Drop (σ.set c X) σ0) {a b:Int} (ha:a.natAbs<=999999999999999999) (hb:b.natAbs<=999999999999999999):∀ (a1:AFr),(a1 0 = .str sQUOT/\a1 4 = .ptr c 0/\a1 7 = .sl k (([a,b]).map (AV.int .i64)))->ACode.wp Tryz.prog c12_224 (RetQ [.c 4 (some 3)] fun v σ'=>v=tellAV ((if b=0 then PV.fail 1 else cntP (intP (a.tdiv b))))/\σ'=σ0) a1 σ:=by
 obtain ⟨s,hs⟩:∃ s,sQUOT=s:=⟨_,rfl⟩
 have n0:(s = [65,66,83])=False:=eq_false (by rw [<-hs];decide)
 have n1:(s = [83,73,71,78])=False:=eq_false (by rw [<-hs];decide)
 have n2:(s = [73,78,84])=False:=eq_false (by rw [<-hs];decide)
 have n3:(s = [84,82,85,78,67])=False:=eq_false (by rw [<-hs];decide)
 have n4:(s = [82,79,85,78,68,68,79,87,78])=False:=eq_false (by rw [<-hs];decide)
 have n5:(s = [82,79,85,78,68])=False:=eq_false (by rw [<-hs];decide)
 have n6:(s = [82,79,85,78,68,85,80])=False:=eq_false (by rw [<-hs];decide)
 have n7:(s = [70,76,79,79,82])=False:=eq_false (by rw [<-hs];decide)
 have n8:(s = [67,69,73,76,73,78,71])=False:=eq_false (by rw [<-hs];decide)
 have n9:(s = [77,82,79,85,78,68])=False:=eq_false (by rw [<-hs];decide)
 have n10:(s = [77,79,68])=False:=eq_false (by rw [<-hs];decide)
 have n11:(s = [81,85,79,84,73,69,78,84])=True:=eq_true (by rw [<-hs];decide)
 have n12:(s = [80,79,87,69,82])=False:=eq_false (by rw [<-hs];decide)
 have n13:(s = [83,81,82,84])=False:=eq_false (by rw [<-hs];decide)
 have n14:(s = [70,65,67,84])=False:=eq_false (by rw [<-hs];decide)
 have n15:(s = [69,86,69,78])=False:=eq_false (by rw [<-hs];decide)
 have n16:(s = [79,68,68])=False:=eq_false (by rw [<-hs];decide)
 have n17:(s = [67,76,65,77,80])=False:=eq_false (by rw [<-hs];decide)
 have n18:(s = [71,67,68])=False:=eq_false (by rw [<-hs];decide)
 have n19:(s = [76,67,77])=False:=eq_false (by rw [<-hs];decide)
 rw [hs]
 refine rhead (by simp) hb fun a1 hf=>?_
 change (a1 0 = .str s/\a1 4 = .ptr c 0/\a1 7 = .sl k ([a,b].map (AV.int .i64))/\a1 12 = .int .i64 a/\a1 13 = .int .i64 (placesM [a,b])/\a1 14 = .int .i64 b) at hf
 simp only [List.map_cons,List.map_nil] at hf
 by_cases h0:b=0
 ·rw [if_pos h0]
  have hN:=rFail_ok 1 (by omega) (by omega)
  simp only [tellAV] at hN ⊢
  simp (disch:=first|assumption|omega|(simp only [List.length_append,List.length_cons,List.length_nil];omega)) only [go_sem,reduceCtorEq,Nat.reduceEqDiff,Nat.reduceAdd,Nat.reduceSub,Nat.reduceMul,Nat.reduceLeDiff,Int.reduceLT,Int.reduceLE,Int.reduceEq,↓reduceIte,Int.reduceNeg,Int.reduceAdd,Int.reduceSub,Int.reduceMul,true_imp_iff,forall_const,Nat.mul_one,Int.reduceToNat,Nat.reducePow,Int.reducePow,Bool.true_and,Bool.false_and,Bool.and_false,hf,hσ,h0,n0,n1,n2,n3,n4,n5,n6,n7,n8,n9,n10,n11,n12,n13,n14,n15,n16,n17,n18,n19]
  refine hN.use ?_
  simp (disch:=first|assumption|omega|(simp only [List.length_append,List.length_cons,List.length_nil];omega)) only [go_sem,reduceCtorEq,Nat.reduceEqDiff,Nat.reduceAdd,Nat.reduceSub,Nat.reduceMul,Nat.reduceLeDiff,Int.reduceLT,Int.reduceLE,Int.reduceEq,↓reduceIte,Int.reduceNeg,Int.reduceAdd,Int.reduceSub,Int.reduceMul,true_imp_iff,forall_const,Nat.mul_one,Int.reduceToNat,Nat.reducePow,Int.reducePow,Bool.true_and,Bool.false_and,Bool.and_false,hf,hσ,ASt.set_set]
  exact retC_by (hD _) (.refl _) ⟨rfl,rfl⟩
 rw [if_neg h0]
 have hqb:(a.tdiv b).natAbs<=a.natAbs:=by rw [Int.natAbs_tdiv];exact Nat.div_le_self _ _
 obtain ⟨q,hq⟩:∃ q,a.tdiv b=q:=⟨_,rfl⟩
 rw [hq] at hqb ⊢
 have e0:IntKind.i64.wrap q=q:=by rw [IntKind.wrap_i64];omega
 have hX:=rnumber_ok (n:=q) (by omega)
 obtain ⟨x1,x2,x3,ht⟩:=tell_agg (cntP (intP q))
 rw [ht] at hX ⊢
 clear ht
 simp (disch:=first|assumption|omega|(simp only [List.length_append,List.length_cons,List.length_nil];omega)) only [go_sem,reduceCtorEq,Nat.reduceEqDiff,Nat.reduceAdd,Nat.reduceSub,Nat.reduceMul,Nat.reduceLeDiff,Int.reduceLT,Int.reduceLE,Int.reduceEq,↓reduceIte,Int.reduceNeg,Int.reduceAdd,Int.reduceSub,Int.reduceMul,true_imp_iff,forall_const,Nat.mul_one,Int.reduceToNat,Nat.reducePow,Int.reducePow,Bool.true_and,Bool.false_and,Bool.and_false,hf,hσ,h0,hq,e0,n0,n1,n2,n3,n4,n5,n6,n7,n8,n9,n10,n11,n12,n13,n14,n15,n16,n17,n18,n19]
 refine hX.use ?_
 simp (disch:=first|assumption|omega|(simp only [List.length_append,List.length_cons,List.length_nil];omega)) only [go_sem,reduceCtorEq,Nat.reduceEqDiff,Nat.reduceAdd,Nat.reduceSub,Nat.reduceMul,Nat.reduceLeDiff,Int.reduceLT,Int.reduceLE,Int.reduceEq,↓reduceIte,Int.reduceNeg,Int.reduceAdd,Int.reduceSub,Int.reduceMul,true_imp_iff,forall_const,Nat.mul_one,Int.reduceToNat,Nat.reducePow,Int.reducePow,Bool.true_and,Bool.false_and,Bool.and_false,hf,hσ,ASt.set_set]
 exact retC_by (hD _) (.refl _) ⟨rfl,rfl⟩
set_option maxHeartbeats 1000000 in
theorem rk_POWER {σ σ0:ASt} {c:Nat} {k:SK} (hσ:σ c=some (.obj [.int .i64 0,.int .i64 0,.str []])) (hD:∀ X,Drop (σ.set c X) σ0) {a b:Int} (ha:a.natAbs<=999999999999999999) (hb:b.natAbs<=999999999999999999):∀ (a1:AFr),(a1 0 = .str sPOWER/\a1 4 = .ptr c 0/\a1 7 = .sl k (([a,b]).map (AV.int .i64)))->ACode.wp Tryz.prog c12_224 (RetQ [.c 4 (some 3)] fun v σ'=>v=tellAV (powV a b)/\σ'=σ0) a1 σ:=by
 obtain ⟨s,hs⟩:∃ s,sPOWER=s:=⟨_,rfl⟩
 have n0:(s = [65,66,83])=False:=eq_false (by rw [<-hs];decide)
 have n1:(s = [83,73,71,78])=False:=eq_false (by rw [<-hs];decide)
 have n2:(s = [73,78,84])=False:=eq_false (by rw [<-hs];decide)
 have n3:(s = [84,82,85,78,67])=False:=eq_false (by rw [<-hs];decide)
 have n4:(s = [82,79,85,78,68,68,79,87,78])=False:=eq_false (by rw [<-hs];decide)
 have n5:(s = [82,79,85,78,68])=False:=eq_false (by rw [<-hs];decide)
 have n6:(s = [82,79,85,78,68,85,80])=False:=eq_false (by rw [<-hs];decide)
 have n7:(s = [70,76,79,79,82])=False:=eq_false (by rw [<-hs];decide)
 have n8:(s = [67,69,73,76,73,78,71])=False:=eq_false (by rw [<-hs];decide)
 have n9:(s = [77,82,79,85,78,68])=False:=eq_false (by rw [<-hs];decide)
 have n10:(s = [77,79,68])=False:=eq_false (by rw [<-hs];decide)
 have n11:(s = [81,85,79,84,73,69,78,84])=False:=eq_false (by rw [<-hs];decide)
 have n12:(s = [80,79,87,69,82])=True:=eq_true (by rw [<-hs];decide)
 have n13:(s = [83,81,82,84])=False:=eq_false (by rw [<-hs];decide)
 have n14:(s = [70,65,67,84])=False:=eq_false (by rw [<-hs];decide)
 have n15:(s = [69,86,69,78])=False:=eq_false (by rw [<-hs];decide)
 have n16:(s = [79,68,68])=False:=eq_false (by rw [<-hs];decide)
 have n17:(s = [67,76,65,77,80])=False:=eq_false (by rw [<-hs];decide)
 have n18:(s = [71,67,68])=False:=eq_false (by rw [<-hs];decide)
 have n19:(s = [76,67,77])=False:=eq_false (by rw [<-hs];decide)
 rw [hs]
 refine rhead (by simp) hb fun a1 hf=>?_
 change (a1 0 = .str s/\a1 4 = .ptr c 0/\a1 7 = .sl k ([a,b].map (AV.int .i64))/\a1 12 = .int .i64 a/\a1 13 = .int .i64 (placesM [a,b])/\a1 14 = .int .i64 b) at hf
 simp only [List.map_cons,List.map_nil] at hf
 have hX:=r15power_ok ha hb
 obtain ⟨x1,x2,x3,ht⟩:=tell_agg (powV a b)
 rw [ht] at hX ⊢
 clear ht
 simp (disch:=first|assumption|omega|(simp only [List.length_append,List.length_cons,List.length_nil];omega)) only [go_sem,reduceCtorEq,Nat.reduceEqDiff,Nat.reduceAdd,Nat.reduceSub,Nat.reduceMul,Nat.reduceLeDiff,Int.reduceLT,Int.reduceLE,Int.reduceEq,↓reduceIte,Int.reduceNeg,Int.reduceAdd,Int.reduceSub,Int.reduceMul,true_imp_iff,forall_const,Nat.mul_one,Int.reduceToNat,Nat.reducePow,Int.reducePow,Bool.true_and,Bool.false_and,Bool.and_false,hf,hσ,n0,n1,n2,n3,n4,n5,n6,n7,n8,n9,n10,n11,n12,n13,n14,n15,n16,n17,n18,n19]
 refine hX.use ?_
 simp (disch:=first|assumption|omega|(simp only [List.length_append,List.length_cons,List.length_nil];omega)) only [go_sem,reduceCtorEq,Nat.reduceEqDiff,Nat.reduceAdd,Nat.reduceSub,Nat.reduceMul,Nat.reduceLeDiff,Int.reduceLT,Int.reduceLE,Int.reduceEq,↓reduceIte,Int.reduceNeg,Int.reduceAdd,Int.reduceSub,Int.reduceMul,true_imp_iff,forall_const,Nat.mul_one,Int.reduceToNat,Nat.reducePow,Int.reducePow,Bool.true_and,Bool.false_and,Bool.and_false,hf,hσ,ASt.set_set]
 exact retC_by (hD _) (.refl _) ⟨rfl,rfl⟩
set_option maxHeartbeats 1000000 in
theorem rk_SQRT {σ σ0:ASt} {c:Nat} {k:SK} (hσ:σ c=some (.obj [.int .i64 0,.int .i64 0,.str []])) (hD:∀ X,Drop (σ.set c X) σ0) {a:Int} {T:List Int} (hl:T.length<=900) (ha:a.natAbs<=999999999999999999) (hT1:(secP (a::T) 0).natAbs<=999999999999999999) (hT2:(secP (a::T) 10000).natAbs<=999999999999999999):∀ (a1:AFr),(a1 0 = .str sSQRT/\a1 4 = .ptr c 0/\a1 7 = .sl k ((a::T).map (AV.int .i64)))->ACode.wp Tryz.prog c12_224 (RetQ [.c 4 (some 3)] fun v σ'=>v=tellAV (sqrtV a)/\σ'=σ0) a1 σ:=by
 have hpl : -20<=placesM (a::T)/\placesM (a::T)<=20:=by unfold placesM;omega
 obtain ⟨s,hs⟩:∃ s,sSQRT=s:=⟨_,rfl⟩
 have n0:(s = [65,66,83])=False:=eq_false (by rw [<-hs];decide)
 have n1:(s = [83,73,71,78])=False:=eq_false (by rw [<-hs];decide)
 have n2:(s = [73,78,84])=False:=eq_false (by rw [<-hs];decide)
 have n3:(s = [84,82,85,78,67])=False:=eq_false (by rw [<-hs];decide)
 have n4:(s = [82,79,85,78,68,68,79,87,78])=False:=eq_false (by rw [<-hs];decide)
 have n5:(s = [82,79,85,78,68])=False:=eq_false (by rw [<-hs];decide)
 have n6:(s = [82,79,85,78,68,85,80])=False:=eq_false (by rw [<-hs];decide)
 have n7:(s = [70,76,79,79,82])=False:=eq_false (by rw [<-hs];decide)
 have n8:(s = [67,69,73,76,73,78,71])=False:=eq_false (by rw [<-hs];decide)
 have n9:(s = [77,82,79,85,78,68])=False:=eq_false (by rw [<-hs];decide)
 have n10:(s = [77,79,68])=False:=eq_false (by rw [<-hs];decide)
 have n11:(s = [81,85,79,84,73,69,78,84])=False:=eq_false (by rw [<-hs];decide)
 have n12:(s = [80,79,87,69,82])=False:=eq_false (by rw [<-hs];decide)
 have n13:(s = [83,81,82,84])=True:=eq_true (by rw [<-hs];decide)
 have n14:(s = [70,65,67,84])=False:=eq_false (by rw [<-hs];decide)
 have n15:(s = [69,86,69,78])=False:=eq_false (by rw [<-hs];decide)
 have n16:(s = [79,68,68])=False:=eq_false (by rw [<-hs];decide)
 have n17:(s = [67,76,65,77,80])=False:=eq_false (by rw [<-hs];decide)
 have n18:(s = [71,67,68])=False:=eq_false (by rw [<-hs];decide)
 have n19:(s = [76,67,77])=False:=eq_false (by rw [<-hs];decide)
 rw [hs]
 refine rhead hl hT1 fun a1 hf=>?_
 generalize placesM (a::T)=p at *
 generalize secP (a::T) 10000=t at *
 unfold sqrtV
 by_cases h0:a<0
 ·rw [if_pos h0]
  have hN:=rFail_ok 2 (by omega) (by omega)
  simp only [tellAV] at hN ⊢
  simp (disch:=first|assumption|omega|(simp only [List.length_append,List.length_cons,List.length_nil];omega)) only [go_sem,reduceCtorEq,Nat.reduceEqDiff,Nat.reduceAdd,Nat.reduceSub,Nat.reduceMul,Nat.reduceLeDiff,Int.reduceLT,Int.reduceLE,Int.reduceEq,↓reduceIte,Int.reduceNeg,Int.reduceAdd,Int.reduceSub,Int.reduceMul,true_imp_iff,forall_const,Nat.mul_one,Int.reduceToNat,Nat.reducePow,Int.reducePow,Bool.true_and,Bool.false_and,Bool.and_false,hf,hσ,h0,n0,n1,n2,n3,n4,n5,n6,n7,n8,n9,n10,n11,n12,n13,n14,n15,n16,n17,n18,n19]
  refine hN.use ?_
  simp (disch:=first|assumption|omega|(simp only [List.length_append,List.length_cons,List.length_nil];omega)) only [go_sem,reduceCtorEq,Nat.reduceEqDiff,Nat.reduceAdd,Nat.reduceSub,Nat.reduceMul,Nat.reduceLeDiff,Int.reduceLT,Int.reduceLE,Int.reduceEq,↓reduceIte,Int.reduceNeg,Int.reduceAdd,Int.reduceSub,Int.reduceMul,true_imp_iff,forall_const,Nat.mul_one,Int.reduceToNat,Nat.reducePow,Int.reducePow,Bool.true_and,Bool.false_and,Bool.and_false,hf,hσ,ASt.set_set]
  exact retC_by (hD _) (.refl _) ⟨rfl,rfl⟩
 rw [if_neg h0]
 have hX:=rsqrt_ok (show 0<=a by omega) (by omega)
 generalize rootD (a.toNat*10000)=r at *
 have hN:=rNum_ok (r:Int)
 simp only [tellAV] at hN ⊢
 simp (disch:=first|assumption|omega|(simp only [List.length_append,List.length_cons,List.length_nil];omega)) only [go_sem,reduceCtorEq,Nat.reduceEqDiff,Nat.reduceAdd,Nat.reduceSub,Nat.reduceMul,Nat.reduceLeDiff,Int.reduceLT,Int.reduceLE,Int.reduceEq,↓reduceIte,Int.reduceNeg,Int.reduceAdd,Int.reduceSub,Int.reduceMul,true_imp_iff,forall_const,Nat.mul_one,Int.reduceToNat,Nat.reducePow,Int.reducePow,Bool.true_and,Bool.false_and,Bool.and_false,hf,hσ,h0,n0,n1,n2,n3,n4,n5,n6,n7,n8,n9,n10,n11,n12,n13,n14,n15,n16,n17,n18,n19]
 refine hX.use ?_
 simp (disch:=first|assumption|omega|(simp only [List.length_append,List.length_cons,List.length_nil];omega)) only [go_sem,reduceCtorEq,Nat.reduceEqDiff,Nat.reduceAdd,Nat.reduceSub,Nat.reduceMul,Nat.reduceLeDiff,Int.reduceLT,Int.reduceLE,Int.reduceEq,↓reduceIte,Int.reduceNeg,Int.reduceAdd,Int.reduceSub,Int.reduceMul,true_imp_iff,forall_const,Nat.mul_one,Int.reduceToNat,Nat.reducePow,Int.reducePow,Bool.true_and,Bool.false_and,Bool.and_false,hf,hσ,ASt.set_set]
 refine hN.use ?_
 simp (disch:=first|assumption|omega|(simp only [List.length_append,List.length_cons,List.length_nil];omega)) only [go_sem,reduceCtorEq,Nat.reduceEqDiff,Nat.reduceAdd,Nat.reduceSub,Nat.reduceMul,Nat.reduceLeDiff,Int.reduceLT,Int.reduceLE,Int.reduceEq,↓reduceIte,Int.reduceNeg,Int.reduceAdd,Int.reduceSub,Int.reduceMul,true_imp_iff,forall_const,Nat.mul_one,Int.reduceToNat,Nat.reducePow,Int.reducePow,Bool.true_and,Bool.false_and,Bool.and_false,hf,hσ,ASt.set_set]
 exact retC_by (hD _) (.refl _) ⟨rfl,rfl⟩
set_option maxHeartbeats 1000000 in
theorem rk_FACT {σ σ0:ASt} {c:Nat} {k:SK} (hσ:σ c=some (.obj [.int .i64 0,.int .i64 0,.str []])) (hD:∀ X,Drop (σ.set c X) σ0) {a:Int} {T:List Int} (hl:T.length<=900) (ha:a.natAbs<=999999999999999999) (hT1:(secP (a::T) 0).natAbs<=999999999999999999) (hT2:(secP (a::T) 10000).natAbs<=999999999999999999):∀ (a1:AFr),(a1 0 = .str sFACT/\a1 4 = .ptr c 0/\a1 7 = .sl k ((a::T).map (AV.int .i64)))->ACode.wp Tryz.prog c12_224 (RetQ [.c 4 (some 3)] fun v σ'=>v=tellAV (factV a)/\σ'=σ0) a1 σ:=by
 have hpl : -20<=placesM (a::T)/\placesM (a::T)<=20:=by unfold placesM;omega
 obtain ⟨s,hs⟩:∃ s,sFACT=s:=⟨_,rfl⟩
 have n0:(s = [65,66,83])=False:=eq_false (by rw [<-hs];decide)
 have n1:(s = [83,73,71,78])=False:=eq_false (by rw [<-hs];decide)
 have n2:(s = [73,78,84])=False:=eq_false (by rw [<-hs];decide)
 have n3:(s = [84,82,85,78,67])=False:=eq_false (by rw [<-hs];decide)
 have n4:(s = [82,79,85,78,68,68,79,87,78])=False:=eq_false (by rw [<-hs];decide)
 have n5:(s = [82,79,85,78,68])=False:=eq_false (by rw [<-hs];decide)
 have n6:(s = [82,79,85,78,68,85,80])=False:=eq_false (by rw [<-hs];decide)
 have n7:(s = [70,76,79,79,82])=False:=eq_false (by rw [<-hs];decide)
 have n8:(s = [67,69,73,76,73,78,71])=False:=eq_false (by rw [<-hs];decide)
 have n9:(s = [77,82,79,85,78,68])=False:=eq_false (by rw [<-hs];decide)
 have n10:(s = [77,79,68])=False:=eq_false (by rw [<-hs];decide)
 have n11:(s = [81,85,79,84,73,69,78,84])=False:=eq_false (by rw [<-hs];decide)
 have n12:(s = [80,79,87,69,82])=False:=eq_false (by rw [<-hs];decide)
 have n13:(s = [83,81,82,84])=False:=eq_false (by rw [<-hs];decide)
 have n14:(s = [70,65,67,84])=True:=eq_true (by rw [<-hs];decide)
 have n15:(s = [69,86,69,78])=False:=eq_false (by rw [<-hs];decide)
 have n16:(s = [79,68,68])=False:=eq_false (by rw [<-hs];decide)
 have n17:(s = [67,76,65,77,80])=False:=eq_false (by rw [<-hs];decide)
 have n18:(s = [71,67,68])=False:=eq_false (by rw [<-hs];decide)
 have n19:(s = [76,67,77])=False:=eq_false (by rw [<-hs];decide)
 rw [hs]
 refine rhead hl hT1 fun a1 hf=>?_
 generalize placesM (a::T)=p at *
 generalize secP (a::T) 10000=t at *
 have hX:=rfact_ok ha
 obtain ⟨x1,x2,x3,ht⟩:=tell_agg (factV a)
 rw [ht] at hX ⊢
 clear ht
 simp (disch:=first|assumption|omega|(simp only [List.length_append,List.length_cons,List.length_nil];omega)) only [go_sem,reduceCtorEq,Nat.reduceEqDiff,Nat.reduceAdd,Nat.reduceSub,Nat.reduceMul,Nat.reduceLeDiff,Int.reduceLT,Int.reduceLE,Int.reduceEq,↓reduceIte,Int.reduceNeg,Int.reduceAdd,Int.reduceSub,Int.reduceMul,true_imp_iff,forall_const,Nat.mul_one,Int.reduceToNat,Nat.reducePow,Int.reducePow,Bool.true_and,Bool.false_and,Bool.and_false,hf,hσ,n0,n1,n2,n3,n4,n5,n6,n7,n8,n9,n10,n11,n12,n13,n14,n15,n16,n17,n18,n19]
 refine hX.use ?_
 simp (disch:=first|assumption|omega|(simp only [List.length_append,List.length_cons,List.length_nil];omega)) only [go_sem,reduceCtorEq,Nat.reduceEqDiff,Nat.reduceAdd,Nat.reduceSub,Nat.reduceMul,Nat.reduceLeDiff,Int.reduceLT,Int.reduceLE,Int.reduceEq,↓reduceIte,Int.reduceNeg,Int.reduceAdd,Int.reduceSub,Int.reduceMul,true_imp_iff,forall_const,Nat.mul_one,Int.reduceToNat,Nat.reducePow,Int.reducePow,Bool.true_and,Bool.false_and,Bool.and_false,hf,hσ,ASt.set_set]
 exact retC_by (hD _) (.refl _) ⟨rfl,rfl⟩
set_option maxHeartbeats 1000000 in
theorem rk_EVEN {σ σ0:ASt} {c:Nat} {k:SK} (hσ:σ c=some (.obj [.int .i64 0,.int .i64 0,.str []])) (hD:∀ X,Drop (σ.set c X) σ0) {a:Int} {T:List Int} (hl:T.length<=900) (ha:a.natAbs<=999999999999999999) (hT1:(secP (a::T) 0).natAbs<=999999999999999999) (hT2:(secP (a::T) 10000).natAbs<=999999999999999999):∀ (a1:AFr),(a1 0 = .str sEVEN/\a1 4 = .ptr c 0/\a1 7 = .sl k ((a::T).map (AV.int .i64)))->ACode.wp Tryz.prog c12_224 (RetQ [.c 4 (some 3)] fun v σ'=>v=tellAV (cntP (intP (evenN a 0)))/\σ'=σ0) a1 σ:=by
 have hpl : -20<=placesM (a::T)/\placesM (a::T)<=20:=by unfold placesM;omega
 obtain ⟨s,hs⟩:∃ s,sEVEN=s:=⟨_,rfl⟩
 have n0:(s = [65,66,83])=False:=eq_false (by rw [<-hs];decide)
 have n1:(s = [83,73,71,78])=False:=eq_false (by rw [<-hs];decide)
 have n2:(s = [73,78,84])=False:=eq_false (by rw [<-hs];decide)
 have n3:(s = [84,82,85,78,67])=False:=eq_false (by rw [<-hs];decide)
 have n4:(s = [82,79,85,78,68,68,79,87,78])=False:=eq_false (by rw [<-hs];decide)
 have n5:(s = [82,79,85,78,68])=False:=eq_false (by rw [<-hs];decide)
 have n6:(s = [82,79,85,78,68,85,80])=False:=eq_false (by rw [<-hs];decide)
 have n7:(s = [70,76,79,79,82])=False:=eq_false (by rw [<-hs];decide)
 have n8:(s = [67,69,73,76,73,78,71])=False:=eq_false (by rw [<-hs];decide)
 have n9:(s = [77,82,79,85,78,68])=False:=eq_false (by rw [<-hs];decide)
 have n10:(s = [77,79,68])=False:=eq_false (by rw [<-hs];decide)
 have n11:(s = [81,85,79,84,73,69,78,84])=False:=eq_false (by rw [<-hs];decide)
 have n12:(s = [80,79,87,69,82])=False:=eq_false (by rw [<-hs];decide)
 have n13:(s = [83,81,82,84])=False:=eq_false (by rw [<-hs];decide)
 have n14:(s = [70,65,67,84])=False:=eq_false (by rw [<-hs];decide)
 have n15:(s = [69,86,69,78])=True:=eq_true (by rw [<-hs];decide)
 have n16:(s = [79,68,68])=False:=eq_false (by rw [<-hs];decide)
 have n17:(s = [67,76,65,77,80])=False:=eq_false (by rw [<-hs];decide)
 have n18:(s = [71,67,68])=False:=eq_false (by rw [<-hs];decide)
 have n19:(s = [76,67,77])=False:=eq_false (by rw [<-hs];decide)
 rw [hs]
 refine rhead hl hT1 fun a1 hf=>?_
 generalize placesM (a::T)=p at *
 generalize secP (a::T) 10000=t at *
 have hX:=reven_ok 0 ha (by omega)
 rw [show ((0:Nat):Int)=0 from rfl] at hX
 obtain ⟨x1,x2,x3,ht⟩:=tell_agg (cntP (intP (evenN a 0)))
 rw [ht] at hX ⊢
 clear ht
 simp (disch:=first|assumption|omega|(simp only [List.length_append,List.length_cons,List.length_nil];omega)) only [go_sem,reduceCtorEq,Nat.reduceEqDiff,Nat.reduceAdd,Nat.reduceSub,Nat.reduceMul,Nat.reduceLeDiff,Int.reduceLT,Int.reduceLE,Int.reduceEq,↓reduceIte,Int.reduceNeg,Int.reduceAdd,Int.reduceSub,Int.reduceMul,true_imp_iff,forall_const,Nat.mul_one,Int.reduceToNat,Nat.reducePow,Int.reducePow,Bool.true_and,Bool.false_and,Bool.and_false,hf,hσ,n0,n1,n2,n3,n4,n5,n6,n7,n8,n9,n10,n11,n12,n13,n14,n15,n16,n17,n18,n19]
 refine hX.use ?_
 simp (disch:=first|assumption|omega|(simp only [List.length_append,List.length_cons,List.length_nil];omega)) only [go_sem,reduceCtorEq,Nat.reduceEqDiff,Nat.reduceAdd,Nat.reduceSub,Nat.reduceMul,Nat.reduceLeDiff,Int.reduceLT,Int.reduceLE,Int.reduceEq,↓reduceIte,Int.reduceNeg,Int.reduceAdd,Int.reduceSub,Int.reduceMul,true_imp_iff,forall_const,Nat.mul_one,Int.reduceToNat,Nat.reducePow,Int.reducePow,Bool.true_and,Bool.false_and,Bool.and_false,hf,hσ,ASt.set_set]
 exact retC_by (hD _) (.refl _) ⟨rfl,rfl⟩
set_option maxHeartbeats 1000000 in
theorem rk_ODD {σ σ0:ASt} {c:Nat} {k:SK} (hσ:σ c=some (.obj [.int .i64 0,.int .i64 0,.str []])) (hD:∀ X,Drop (σ.set c X) σ0) {a:Int} {T:List Int} (hl:T.length<=900) (ha:a.natAbs<=999999999999999999) (hT1:(secP (a::T) 0).natAbs<=999999999999999999) (hT2:(secP (a::T) 10000).natAbs<=999999999999999999):∀ (a1:AFr),(a1 0 = .str sODD/\a1 4 = .ptr c 0/\a1 7 = .sl k ((a::T).map (AV.int .i64)))->ACode.wp Tryz.prog c12_224 (RetQ [.c 4 (some 3)] fun v σ'=>v=tellAV (cntP (intP (evenN a 1)))/\σ'=σ0) a1 σ:=by
 have hpl : -20<=placesM (a::T)/\placesM (a::T)<=20:=by unfold placesM;omega
 obtain ⟨s,hs⟩:∃ s,sODD=s:=⟨_,rfl⟩
 have n0:(s = [65,66,83])=False:=eq_false (by rw [<-hs];decide)
 have n1:(s = [83,73,71,78])=False:=eq_false (by rw [<-hs];decide)
 have n2:(s = [73,78,84])=False:=eq_false (by rw [<-hs];decide)
 have n3:(s = [84,82,85,78,67])=False:=eq_false (by rw [<-hs];decide)
 have n4:(s = [82,79,85,78,68,68,79,87,78])=False:=eq_false (by rw [<-hs];decide)
 have n5:(s = [82,79,85,78,68])=False:=eq_false (by rw [<-hs];decide)
 have n6:(s = [82,79,85,78,68,85,80])=False:=eq_false (by rw [<-hs];decide)
 have n7:(s = [70,76,79,79,82])=False:=eq_false (by rw [<-hs];decide)
 have n8:(s = [67,69,73,76,73,78,71])=False:=eq_false (by rw [<-hs];decide)
 have n9:(s = [77,82,79,85,78,68])=False:=eq_false (by rw [<-hs];decide)
 have n10:(s = [77,79,68])=False:=eq_false (by rw [<-hs];decide)
 have n11:(s = [81,85,79,84,73,69,78,84])=False:=eq_false (by rw [<-hs];decide)
 have n12:(s = [80,79,87,69,82])=False:=eq_false (by rw [<-hs];decide)
 have n13:(s = [83,81,82,84])=False:=eq_false (by rw [<-hs];decide)
 have n14:(s = [70,65,67,84])=False:=eq_false (by rw [<-hs];decide)
 have n15:(s = [69,86,69,78])=False:=eq_false (by rw [<-hs];decide)
 have n16:(s = [79,68,68])=True:=eq_true (by rw [<-hs];decide)
 have n17:(s = [67,76,65,77,80])=False:=eq_false (by rw [<-hs];decide)
 have n18:(s = [71,67,68])=False:=eq_false (by rw [<-hs];decide)
 have n19:(s = [76,67,77])=False:=eq_false (by rw [<-hs];decide)
 rw [hs]
 refine rhead hl hT1 fun a1 hf=>?_
 generalize placesM (a::T)=p at *
 generalize secP (a::T) 10000=t at *
 have hX:=reven_ok 1 ha (by omega)
 rw [show ((1:Nat):Int)=1 from rfl] at hX
 obtain ⟨x1,x2,x3,ht⟩:=tell_agg (cntP (intP (evenN a 1)))
 rw [ht] at hX ⊢
 clear ht
 simp (disch:=first|assumption|omega|(simp only [List.length_append,List.length_cons,List.length_nil];omega)) only [go_sem,reduceCtorEq,Nat.reduceEqDiff,Nat.reduceAdd,Nat.reduceSub,Nat.reduceMul,Nat.reduceLeDiff,Int.reduceLT,Int.reduceLE,Int.reduceEq,↓reduceIte,Int.reduceNeg,Int.reduceAdd,Int.reduceSub,Int.reduceMul,true_imp_iff,forall_const,Nat.mul_one,Int.reduceToNat,Nat.reducePow,Int.reducePow,Bool.true_and,Bool.false_and,Bool.and_false,hf,hσ,n0,n1,n2,n3,n4,n5,n6,n7,n8,n9,n10,n11,n12,n13,n14,n15,n16,n17,n18,n19]
 refine hX.use ?_
 simp (disch:=first|assumption|omega|(simp only [List.length_append,List.length_cons,List.length_nil];omega)) only [go_sem,reduceCtorEq,Nat.reduceEqDiff,Nat.reduceAdd,Nat.reduceSub,Nat.reduceMul,Nat.reduceLeDiff,Int.reduceLT,Int.reduceLE,Int.reduceEq,↓reduceIte,Int.reduceNeg,Int.reduceAdd,Int.reduceSub,Int.reduceMul,true_imp_iff,forall_const,Nat.mul_one,Int.reduceToNat,Nat.reducePow,Int.reducePow,Bool.true_and,Bool.false_and,Bool.and_false,hf,hσ,ASt.set_set]
 exact retC_by (hD _) (.refl _) ⟨rfl,rfl⟩
set_option maxHeartbeats 1000000 in
theorem rk_CLAMP {σ σ0:ASt} {c:Nat} {k:SK} (hσ:σ c=some (.obj [.int .i64 0,.int .i64 0,.str []])) (hD:∀ X,Drop (σ.set c X) σ0) {a b d:Int} (hb:b.natAbs<=999999999999999999):∀ (a1:AFr),(a1 0 = .str sCLAMP/\a1 4 = .ptr c 0/\a1 7 = .sl k (([a,b,d]).map (AV.int .i64)))->ACode.wp Tryz.prog c12_224 (RetQ [.c 4 (some 3)] fun v σ'=>v=tellAV (clampV a b d)/\σ'=σ0) a1 σ:=by
 obtain ⟨s,hs⟩:∃ s,sCLAMP=s:=⟨_,rfl⟩
 have n0:(s = [65,66,83])=False:=eq_false (by rw [<-hs];decide)
 have n1:(s = [83,73,71,78])=False:=eq_false (by rw [<-hs];decide)
 have n2:(s = [73,78,84])=False:=eq_false (by rw [<-hs];decide)
 have n3:(s = [84,82,85,78,67])=False:=eq_false (by rw [<-hs];decide)
 have n4:(s = [82,79,85,78,68,68,79,87,78])=False:=eq_false (by rw [<-hs];decide)
 have n5:(s = [82,79,85,78,68])=False:=eq_false (by rw [<-hs];decide)
 have n6:(s = [82,79,85,78,68,85,80])=False:=eq_false (by rw [<-hs];decide)
 have n7:(s = [70,76,79,79,82])=False:=eq_false (by rw [<-hs];decide)
 have n8:(s = [67,69,73,76,73,78,71])=False:=eq_false (by rw [<-hs];decide)
 have n9:(s = [77,82,79,85,78,68])=False:=eq_false (by rw [<-hs];decide)
 have n10:(s = [77,79,68])=False:=eq_false (by rw [<-hs];decide)
 have n11:(s = [81,85,79,84,73,69,78,84])=False:=eq_false (by rw [<-hs];decide)
 have n12:(s = [80,79,87,69,82])=False:=eq_false (by rw [<-hs];decide)
 have n13:(s = [83,81,82,84])=False:=eq_false (by rw [<-hs];decide)
 have n14:(s = [70,65,67,84])=False:=eq_false (by rw [<-hs];decide)
 have n15:(s = [69,86,69,78])=False:=eq_false (by rw [<-hs];decide)
 have n16:(s = [79,68,68])=False:=eq_false (by rw [<-hs];decide)
 have n17:(s = [67,76,65,77,80])=True:=eq_true (by rw [<-hs];decide)
 have n18:(s = [71,67,68])=False:=eq_false (by rw [<-hs];decide)
 have n19:(s = [76,67,77])=False:=eq_false (by rw [<-hs];decide)
 rw [hs]
 refine rhead (by simp) hb fun a1 hf=>?_
 simp only [List.map_cons,List.map_nil] at hf
 unfold clampV
 by_cases h0:d<b
 ·rw [if_pos h0]
  have hN:=rFail_ok 2 (by omega) (by omega)
  simp only [tellAV] at hN ⊢
  simp (disch:=first|assumption|omega|(simp only [List.length_append,List.length_cons,List.length_nil];omega)) only [go_sem,reduceCtorEq,Nat.reduceEqDiff,Nat.reduceAdd,Nat.reduceSub,Nat.reduceMul,Nat.reduceLeDiff,Int.reduceLT,Int.reduceLE,Int.reduceEq,↓reduceIte,Int.reduceNeg,Int.reduceAdd,Int.reduceSub,Int.reduceMul,true_imp_iff,forall_const,Nat.mul_one,Int.reduceToNat,Nat.reducePow,Int.reducePow,Bool.true_and,Bool.false_and,Bool.and_false,hf,hσ,h0,n0,n1,n2,n3,n4,n5,n6,n7,n8,n9,n10,n11,n12,n13,n14,n15,n16,n17,n18,n19]
  refine hN.use ?_
  simp (disch:=first|assumption|omega|(simp only [List.length_append,List.length_cons,List.length_nil];omega)) only [go_sem,reduceCtorEq,Nat.reduceEqDiff,Nat.reduceAdd,Nat.reduceSub,Nat.reduceMul,Nat.reduceLeDiff,Int.reduceLT,Int.reduceLE,Int.reduceEq,↓reduceIte,Int.reduceNeg,Int.reduceAdd,Int.reduceSub,Int.reduceMul,true_imp_iff,forall_const,Nat.mul_one,Int.reduceToNat,Nat.reducePow,Int.reducePow,Bool.true_and,Bool.false_and,Bool.and_false,hf,hσ,ASt.set_set]
  exact retC_by (hD _) (.refl _) ⟨rfl,rfl⟩
 rw [if_neg h0]
 obtain ⟨m,hm⟩:∃ m,max (min a d) b=m:=⟨_,rfl⟩
 rw [hm]
 have hN:=rNum_ok m
 simp only [tellAV] at hN ⊢
 by_cases h1:a<b
 ·obtain rfl:b=m:=by omega
  simp (disch:=first|assumption|omega|(simp only [List.length_append,List.length_cons,List.length_nil];omega)) only [go_sem,reduceCtorEq,Nat.reduceEqDiff,Nat.reduceAdd,Nat.reduceSub,Nat.reduceMul,Nat.reduceLeDiff,Int.reduceLT,Int.reduceLE,Int.reduceEq,↓reduceIte,Int.reduceNeg,Int.reduceAdd,Int.reduceSub,Int.reduceMul,true_imp_iff,forall_const,Nat.mul_one,Int.reduceToNat,Nat.reducePow,Int.reducePow,Bool.true_and,Bool.false_and,Bool.and_false,hf,hσ,h0,h1,n0,n1,n2,n3,n4,n5,n6,n7,n8,n9,n10,n11,n12,n13,n14,n15,n16,n17,n18,n19]
  refine hN.use ?_
  simp (disch:=first|assumption|omega|(simp only [List.length_append,List.length_cons,List.length_nil];omega)) only [go_sem,reduceCtorEq,Nat.reduceEqDiff,Nat.reduceAdd,Nat.reduceSub,Nat.reduceMul,Nat.reduceLeDiff,Int.reduceLT,Int.reduceLE,Int.reduceEq,↓reduceIte,Int.reduceNeg,Int.reduceAdd,Int.reduceSub,Int.reduceMul,true_imp_iff,forall_const,Nat.mul_one,Int.reduceToNat,Nat.reducePow,Int.reducePow,Bool.true_and,Bool.false_and,Bool.and_false,hf,hσ,ASt.set_set]
  exact retC_by (hD _) (.refl _) ⟨rfl,rfl⟩
 by_cases h2:d<a
 ·obtain rfl:d=m:=by omega
  simp (disch:=first|assumption|omega|(simp only [List.length_append,List.length_cons,List.length_nil];omega)) only [go_sem,reduceCtorEq,Nat.reduceEqDiff,Nat.reduceAdd,Nat.reduceSub,Nat.reduceMul,Nat.reduceLeDiff,Int.reduceLT,Int.reduceLE,Int.reduceEq,↓reduceIte,Int.reduceNeg,Int.reduceAdd,Int.reduceSub,Int.reduceMul,true_imp_iff,forall_const,Nat.mul_one,Int.reduceToNat,Nat.reducePow,Int.reducePow,Bool.true_and,Bool.false_and,Bool.and_false,hf,hσ,h0,h1,h2,n0,n1,n2,n3,n4,n5,n6,n7,n8,n9,n10,n11,n12,n13,n14,n15,n16,n17,n18,n19]
  refine hN.use ?_
  simp (disch:=first|assumption|omega|(simp only [List.length_append,List.length_cons,List.length_nil];omega)) only [go_sem,reduceCtorEq,Nat.reduceEqDiff,Nat.reduceAdd,Nat.reduceSub,Nat.reduceMul,Nat.reduceLeDiff,Int.reduceLT,Int.reduceLE,Int.reduceEq,↓reduceIte,Int.reduceNeg,Int.reduceAdd,Int.reduceSub,Int.reduceMul,true_imp_iff,forall_const,Nat.mul_one,Int.reduceToNat,Nat.reducePow,Int.reducePow,Bool.true_and,Bool.false_and,Bool.and_false,hf,hσ,ASt.set_set]
  exact retC_by (hD _) (.refl _) ⟨rfl,rfl⟩
 obtain rfl:a=m:=by omega
 simp (disch:=first|assumption|omega|(simp only [List.length_append,List.length_cons,List.length_nil];omega)) only [go_sem,reduceCtorEq,Nat.reduceEqDiff,Nat.reduceAdd,Nat.reduceSub,Nat.reduceMul,Nat.reduceLeDiff,Int.reduceLT,Int.reduceLE,Int.reduceEq,↓reduceIte,Int.reduceNeg,Int.reduceAdd,Int.reduceSub,Int.reduceMul,true_imp_iff,forall_const,Nat.mul_one,Int.reduceToNat,Nat.reducePow,Int.reducePow,Bool.true_and,Bool.false_and,Bool.and_false,hf,hσ,h0,h1,h2,n0,n1,n2,n3,n4,n5,n6,n7,n8,n9,n10,n11,n12,n13,n14,n15,n16,n17,n18,n19]
 refine hN.use ?_
 simp (disch:=first|assumption|omega|(simp only [List.length_append,List.length_cons,List.length_nil];omega)) only [go_sem,reduceCtorEq,Nat.reduceEqDiff,Nat.reduceAdd,Nat.reduceSub,Nat.reduceMul,Nat.reduceLeDiff,Int.reduceLT,Int.reduceLE,Int.reduceEq,↓reduceIte,Int.reduceNeg,Int.reduceAdd,Int.reduceSub,Int.reduceMul,true_imp_iff,forall_const,Nat.mul_one,Int.reduceToNat,Nat.reducePow,Int.reducePow,Bool.true_and,Bool.false_and,Bool.and_false,hf,hσ,ASt.set_set]
 exact retC_by (hD _) (.refl _) ⟨rfl,rfl⟩
set_option maxHeartbeats 1000000 in
theorem rk_GCD {σ σ0:ASt} {c:Nat} {k:SK} (hσ:σ c=some (.obj [.int .i64 0,.int .i64 0,.str []])) (hD:∀ X,Drop (σ.set c X) σ0) {N:List Int} (hn:N.length<=900) (h1:1<=N.length) (hN:∀ a∈N,a.natAbs<=999999999999999999):∀ (a1:AFr),(a1 0 = .str sGCD/\a1 4 = .ptr c 0/\a1 7 = .sl k ((N).map (AV.int .i64)))->ACode.wp Tryz.prog c12_224 (RetQ [.c 4 (some 3)] fun v σ'=>v=tellAV (manyP true N)/\σ'=σ0) a1 σ:=by
 obtain ⟨s,hs⟩:∃ s,sGCD=s:=⟨_,rfl⟩
 have n0:(s = [65,66,83])=False:=eq_false (by rw [<-hs];decide)
 have n1:(s = [83,73,71,78])=False:=eq_false (by rw [<-hs];decide)
 have n2:(s = [73,78,84])=False:=eq_false (by rw [<-hs];decide)
 have n3:(s = [84,82,85,78,67])=False:=eq_false (by rw [<-hs];decide)
 have n4:(s = [82,79,85,78,68,68,79,87,78])=False:=eq_false (by rw [<-hs];decide)
 have n5:(s = [82,79,85,78,68])=False:=eq_false (by rw [<-hs];decide)
 have n6:(s = [82,79,85,78,68,85,80])=False:=eq_false (by rw [<-hs];decide)
 have n7:(s = [70,76,79,79,82])=False:=eq_false (by rw [<-hs];decide)
 have n8:(s = [67,69,73,76,73,78,71])=False:=eq_false (by rw [<-hs];decide)
 have n9:(s = [77,82,79,85,78,68])=False:=eq_false (by rw [<-hs];decide)
 have n10:(s = [77,79,68])=False:=eq_false (by rw [<-hs];decide)
 have n11:(s = [81,85,79,84,73,69,78,84])=False:=eq_false (by rw [<-hs];decide)
 have n12:(s = [80,79,87,69,82])=False:=eq_false (by rw [<-hs];decide)
 have n13:(s = [83,81,82,84])=False:=eq_false (by rw [<-hs];decide)
 have n14:(s = [70,65,67,84])=False:=eq_false (by rw [<-hs];decide)
 have n15:(s = [69,86,69,78])=False:=eq_false (by rw [<-hs];decide)
 have n16:(s = [79,68,68])=False:=eq_false (by rw [<-hs];decide)
 have n17:(s = [67,76,65,77,80])=False:=eq_false (by rw [<-hs];decide)
 have n18:(s = [71,67,68])=True:=eq_true (by rw [<-hs];decide)
 have n19:(s = [76,67,77])=False:=eq_false (by rw [<-hs];decide)
 rw [hs]
 obtain ⟨x,T,rfl⟩:∃ x T,N=x::T:=by
  cases N with
  | nil=>simp at h1
  | cons x T=>exact ⟨x,T,rfl⟩
 have hsb:(secP (x::T) 0).natAbs<=999999999999999999:=by
  cases T with
  | nil=>exact Nat.zero_le _
  | cons y T=>exact hN y (by simp)
 refine rhead (by simp at hn;omega) hsb fun a1 hf=>?_
 have hX:=rmany_ok k (x::T) true (by omega) h1 hN
 simp only [Bool.not_true] at hX
 obtain ⟨x1,x2,x3,ht⟩:=tell_agg (manyP true (x::T))
 rw [ht] at hX ⊢
 clear ht
 simp only [List.map_cons] at hf hX
 simp (disch:=first|assumption|omega|(simp only [List.length_append,List.length_cons,List.length_nil];omega)) only [go_sem,reduceCtorEq,Nat.reduceEqDiff,Nat.reduceAdd,Nat.reduceSub,Nat.reduceMul,Nat.reduceLeDiff,Int.reduceLT,Int.reduceLE,Int.reduceEq,↓reduceIte,Int.reduceNeg,Int.reduceAdd,Int.reduceSub,Int.reduceMul,true_imp_iff,forall_const,Nat.mul_one,Int.reduceToNat,Nat.reducePow,Int.reducePow,Bool.true_and,Bool.false_and,Bool.and_false,hf,hσ,n0,n1,n2,n3,n4,n5,n6,n7,n8,n9,n10,n11,n12,n13,n14,n15,n16,n17,n18,n19]
 refine hX.use ?_
 simp (disch:=first|assumption|omega|(simp only [List.length_append,List.length_cons,List.length_nil];omega)) only [go_sem,reduceCtorEq,Nat.reduceEqDiff,Nat.reduceAdd,Nat.reduceSub,Nat.reduceMul,Nat.reduceLeDiff,Int.reduceLT,Int.reduceLE,Int.reduceEq,↓reduceIte,Int.reduceNeg,Int.reduceAdd,Int.reduceSub,Int.reduceMul,true_imp_iff,forall_const,Nat.mul_one,Int.reduceToNat,Nat.reducePow,Int.reducePow,Bool.true_and,Bool.false_and,Bool.and_false,hf,hσ,ASt.set_set]
 exact retC_by (hD _) (.refl _) ⟨rfl,rfl⟩
set_option maxHeartbeats 1000000 in
theorem rk_LCM {σ σ0:ASt} {c:Nat} {k:SK} (hσ:σ c=some (.obj [.int .i64 0,.int .i64 0,.str []])) (hD:∀ X,Drop (σ.set c X) σ0) {N:List Int} (hn:N.length<=900) (h1:1<=N.length) (hN:∀ a∈N,a.natAbs<=999999999999999999):∀ (a1:AFr),(a1 0 = .str sLCM/\a1 4 = .ptr c 0/\a1 7 = .sl k ((N).map (AV.int .i64)))->ACode.wp Tryz.prog c12_224 (RetQ [.c 4 (some 3)] fun v σ'=>v=tellAV (manyP false N)/\σ'=σ0) a1 σ:=by
 obtain ⟨s,hs⟩:∃ s,sLCM=s:=⟨_,rfl⟩
 have n0:(s = [65,66,83])=False:=eq_false (by rw [<-hs];decide)
 have n1:(s = [83,73,71,78])=False:=eq_false (by rw [<-hs];decide)
 have n2:(s = [73,78,84])=False:=eq_false (by rw [<-hs];decide)
 have n3:(s = [84,82,85,78,67])=False:=eq_false (by rw [<-hs];decide)
 have n4:(s = [82,79,85,78,68,68,79,87,78])=False:=eq_false (by rw [<-hs];decide)
 have n5:(s = [82,79,85,78,68])=False:=eq_false (by rw [<-hs];decide)
 have n6:(s = [82,79,85,78,68,85,80])=False:=eq_false (by rw [<-hs];decide)
 have n7:(s = [70,76,79,79,82])=False:=eq_false (by rw [<-hs];decide)
 have n8:(s = [67,69,73,76,73,78,71])=False:=eq_false (by rw [<-hs];decide)
 have n9:(s = [77,82,79,85,78,68])=False:=eq_false (by rw [<-hs];decide)
 have n10:(s = [77,79,68])=False:=eq_false (by rw [<-hs];decide)
 have n11:(s = [81,85,79,84,73,69,78,84])=False:=eq_false (by rw [<-hs];decide)
 have n12:(s = [80,79,87,69,82])=False:=eq_false (by rw [<-hs];decide)
 have n13:(s = [83,81,82,84])=False:=eq_false (by rw [<-hs];decide)
 have n14:(s = [70,65,67,84])=False:=eq_false (by rw [<-hs];decide)
 have n15:(s = [69,86,69,78])=False:=eq_false (by rw [<-hs];decide)
 have n16:(s = [79,68,68])=False:=eq_false (by rw [<-hs];decide)
 have n17:(s = [67,76,65,77,80])=False:=eq_false (by rw [<-hs];decide)
 have n18:(s = [71,67,68])=False:=eq_false (by rw [<-hs];decide)
 have n19:(s = [76,67,77])=True:=eq_true (by rw [<-hs];decide)
 rw [hs]
 obtain ⟨x,T,rfl⟩:∃ x T,N=x::T:=by
  cases N with
  | nil=>simp at h1
  | cons x T=>exact ⟨x,T,rfl⟩
 have hsb:(secP (x::T) 0).natAbs<=999999999999999999:=by
  cases T with
  | nil=>exact Nat.zero_le _
  | cons y T=>exact hN y (by simp)
 refine rhead (by simp at hn;omega) hsb fun a1 hf=>?_
 have hX:=rmany_ok k (x::T) false (by omega) h1 hN
 simp only [Bool.not_false] at hX
 obtain ⟨x1,x2,x3,ht⟩:=tell_agg (manyP false (x::T))
 rw [ht] at hX ⊢
 clear ht
 simp only [List.map_cons] at hf hX
 simp (disch:=first|assumption|omega|(simp only [List.length_append,List.length_cons,List.length_nil];omega)) only [go_sem,reduceCtorEq,Nat.reduceEqDiff,Nat.reduceAdd,Nat.reduceSub,Nat.reduceMul,Nat.reduceLeDiff,Int.reduceLT,Int.reduceLE,Int.reduceEq,↓reduceIte,Int.reduceNeg,Int.reduceAdd,Int.reduceSub,Int.reduceMul,true_imp_iff,forall_const,Nat.mul_one,Int.reduceToNat,Nat.reducePow,Int.reducePow,Bool.true_and,Bool.false_and,Bool.and_false,hf,hσ,n0,n1,n2,n3,n4,n5,n6,n7,n8,n9,n10,n11,n12,n13,n14,n15,n16,n17,n18,n19]
 refine hX.use ?_
 simp (disch:=first|assumption|omega|(simp only [List.length_append,List.length_cons,List.length_nil];omega)) only [go_sem,reduceCtorEq,Nat.reduceEqDiff,Nat.reduceAdd,Nat.reduceSub,Nat.reduceMul,Nat.reduceLeDiff,Int.reduceLT,Int.reduceLE,Int.reduceEq,↓reduceIte,Int.reduceNeg,Int.reduceAdd,Int.reduceSub,Int.reduceMul,true_imp_iff,forall_const,Nat.mul_one,Int.reduceToNat,Nat.reducePow,Int.reducePow,Bool.true_and,Bool.false_and,Bool.and_false,hf,hσ,ASt.set_set]
 exact retC_by (hD _) (.refl _) ⟨rfl,rfl⟩
end Go.A
namespace Go.A
open Go.Proofs
/-! 11: tabular/tabularlaw16.Args -/
def c11_14:ACode := .seq (.ops [ oq 10 (.bin .lss (.t 9) (.t 8))]) (.seq (.cond (.t 10) .skip (.exit 0)) (.seq (.block 1 (.seq (.ops [ oq 11 (.ia 3 (.t 7) (.t 9)),oq 12 (.ld (some 3) (.t 11)),oe 5 (.alloc [(.int .i64 0),(.int .i64 0),(.str [])]),oz (.store 3 (.t 5) (.t 12))]) (.seq (.ops [ oq 13 (.fa 2 (.t 5)),oq 14 (.ld none (.t 13)),oe 15 (.call 4 [(.t 14),(.v (.int .i64 60))]),oq 16 (.fa 2 (.t 5)),oz (.store 1 (.t 16) (.t 15))]) (.ops [ oq 17 (.mv (.t 3)),oq 18 (.ld (some 3) (.t 5)),oe 19 (.call 37 [(.t 18)]),oe 20 (.call 36 [(.t 19)]),oq 21 (.bsl 4 [(.t 20)]),oe 22 (.app 67 4 48 [(.int .i64 0),(.int .i64 0),(.bool false),(.sl .full [])] (.t 17) (.t 21)),oq 3 (.mv (.t 22))])))) (.ops [ oq 23 (.bin .add (.t 9) (.v (.int .i64 1))),oq 9 (.mv (.t 23))])))
def c11_19:ACode := .seq (.ops [ oq 24 (.mv (.t 3)),oq 2 (.mv (.t 24))]) .ret
def c11_22:ACode := .seq (.ops [ oq 2 (.mv (.v (.sl .full [])))]) (.seq (.ops [ oq 6 (.bsl 4 []),oq 3 (.mv (.t 6))]) (.seq (.seq (.ops [ oq 7 (.mv (.t 0)),oq 8 (.len (.t 7)),oq 9 (.mv (.v (.int .i64 0)))]) (.block 0 (.loop c11_14))) c11_19))
@[go_sem] def c11_14_wp:=wp_of c11_14.eq_1
@[go_sem] def c11_19_wp:=wp_of c11_19.eq_1
@[go_sem] def c11_22_wp:=wp_of c11_22.eq_1
def c11:AFn:=⟨25,[.t 2],c11_22⟩
theorem c11_ok:compF Tryz.prog Tryz.f11=some c11:=by kernel_rfl
theorem a11 {args:List AV} {σ:ASt} {R:AV->ASt->Prop} (hl:args.length<=25) (h:c11_22.wp Tryz.prog (RetQ [.t 2] R) (init args) σ):ACalls Tryz.prog 11 args σ R:=acalls_of Tryz.func11 c11_ok hl h
end Go.A
namespace Go.A
open Go.Proofs
theorem Grown.u8 {σ0 σ:ASt} {k:SK} {n s:Nat} (h:Grown σ0 σ k n s) (hU:U8 σ0):U8 σ:=⟨h.at hU.1,h.at hU.2⟩
def argsP (L:List Pl):List PV:=L.map fun p=>ofP ⟨p.kind,p.n,p.s.take 60⟩
theorem argsP_small (L:List Pl):∀ v∈argsP L,v.small:=by
 intro v hv
 obtain ⟨p,_,rfl⟩:=List.mem_map.1 hv
 exact ofP_small _
theorem pl_get {L:List Pl} {i:Nat} {p:Pl} (h:L[i]? = some p):(L.map plAV)[i]? = some (plAV p):=by rw [List.getElem?_map,h];rfl
set_option maxHeartbeats 1000000 in
theorem args_ok {σ:ASt} (h:U8 σ) (L:List Pl) (hn:L.length<=100000):ACalls Tryz.prog 11 [.sl .shr (L.map plAV)] σ fun v σ'=>v = .sl .shr ((argsP L).map argAV)/\σ'=σ:=by
 refine a11 (by simp) ?_
 obtain ⟨F,hF⟩:∃ F,F=ACode.wp Tryz.prog c11_19:=⟨_,rfl⟩
 simp (disch:=first|assumption|omega|(simp only [List.length_append,List.length_cons,List.length_nil];omega)) only [go_sem,reduceCtorEq,Nat.reduceEqDiff,Nat.reduceAdd,Nat.reduceSub,Nat.reduceMul,Nat.reduceLeDiff,Int.reduceLT,Int.reduceLE,Int.reduceEq,↓reduceIte,Int.reduceNeg,Int.reduceAdd,Int.reduceSub,Int.reduceMul,true_imp_iff,forall_const,Nat.mul_one,Int.reduceToNat,Nat.reducePow,Int.reducePow,Bool.true_and,Bool.false_and,Bool.and_false,←hF]
 refine wp_loop_by (fun (i:Nat) a σ'=>i<=L.length/\(a 7 = .sl .shr (L.map plAV)/\a 8 = .int .i64 L.length/\a 9 = .int .i64 i)/\∃ k,a 3 = .sl k ((argsP (L.take i)).map argAV)/\Grown σ σ' k ((argsP (L.take i)).map argAV).length 4)
  (fun i=>L.length-i) 0 (Dr.now ⟨Nat.zero_le _,?_,.full,?_,.inl ⟨rfl,by simp [argsP],rfl⟩⟩) ?_
 ·simp (disch:=first|assumption|omega|(simp only [List.length_append,List.length_cons,List.length_nil];omega)) only [go_sem,reduceCtorEq,Nat.reduceEqDiff,Nat.reduceAdd,Nat.reduceSub,Nat.reduceMul,Nat.reduceLeDiff,Int.reduceLT,Int.reduceLE,Int.reduceEq,↓reduceIte,Int.reduceNeg,Int.reduceAdd,Int.reduceSub,Int.reduceMul,true_imp_iff,forall_const,Nat.mul_one,Int.reduceToNat,Nat.reducePow,Int.reducePow,Bool.true_and,Bool.false_and,Bool.and_false]
 ·simp (disch:=first|assumption|omega|(simp only [List.length_append,List.length_cons,List.length_nil];omega)) only [go_sem,reduceCtorEq,Nat.reduceEqDiff,Nat.reduceAdd,Nat.reduceSub,Nat.reduceMul,Nat.reduceLeDiff,Int.reduceLT,Int.reduceLE,Int.reduceEq,↓reduceIte,Int.reduceNeg,Int.reduceAdd,Int.reduceSub,Int.reduceMul,true_imp_iff,forall_const,Nat.mul_one,Int.reduceToNat,Nat.reducePow,Int.reducePow,Bool.true_and,Bool.false_and,Bool.and_false,argsP]
 rintro i a σ1 ⟨hi,hf,k,h3,hg⟩
 by_cases hlt:i<L.length
 ·have hlt':(i:Int)<L.length:=by omega
  have hx : L[i]? = some (L[i]'hlt) := List.getElem?_eq_getElem hlt
  obtain ⟨p, hp⟩ : ∃ p, L[i]'hlt = p := ⟨_, rfl⟩
  rw [hp] at hx
  have hmx:=pl_get hx
  have hap:(argsP (L.take i)).map argAV ++ [argAV (ofP ⟨p.kind,p.n,p.s.take 60⟩)]=(argsP (L.take (i+1))).map argAV:=by
   obtain ⟨h1,h2⟩:=List.getElem?_eq_some_iff.1 hx
   rw [List.take_succ_eq_append_getElem h1,h2];simp [argsP]
  have hlen:((argsP (L.take i)).map argAV).length<=100000:=by simp [argsP];omega
  obtain ⟨kd,n,s⟩:=p
  dsimp only at hap
  have hC:=lcut_ok s 60
  rw [show (((60:Nat)):Int)=60 from rfl] at hC
  have htl:(s.take 60).length<=60:=by rw [List.length_take];omega
  generalize s.take 60=t at *
  have hO1:=vone_ok (ofP ⟨kd,n,t⟩)
  have hu1:=hg.u8 h
  unfold plAV at hmx hf
  dsimp only at hmx
  generalize (argsP (L.take i)).map argAV=A at *
  simp (disch:=first|assumption|omega|(simp only [List.length_append,List.length_cons,List.length_nil];omega)) only [go_sem,reduceCtorEq,Nat.reduceEqDiff,Nat.reduceAdd,Nat.reduceSub,Nat.reduceMul,Nat.reduceLeDiff,Int.reduceLT,Int.reduceLE,Int.reduceEq,↓reduceIte,Int.reduceNeg,Int.reduceAdd,Int.reduceSub,Int.reduceMul,true_imp_iff,forall_const,Nat.mul_one,Int.reduceToNat,Nat.reducePow,Int.reducePow,Bool.true_and,Bool.false_and,Bool.and_false,hf,h3,hlt',hmx,←hF]
  refine allocC_by fun c hc=>?_
  obtain ⟨hga,hc0⟩:=hg.upon hc (q := .obj [.int .i64 kd,.int .i64 n,.str t])
  have hOf:=of_ok (hu1.set hc (r:=some (.obj [.int .i64 kd,.int .i64 n,.str t]))) ⟨kd,n,t⟩ (show t.length<=4611686018427387904 by omega)
  unfold plAV at hOf
  dsimp only at hOf
  simp (disch:=first|assumption|omega|(simp only [List.length_append,List.length_cons,List.length_nil];omega)) only [go_sem,reduceCtorEq,Nat.reduceEqDiff,Nat.reduceAdd,Nat.reduceSub,Nat.reduceMul,Nat.reduceLeDiff,Int.reduceLT,Int.reduceLE,Int.reduceEq,↓reduceIte,Int.reduceNeg,Int.reduceAdd,Int.reduceSub,Int.reduceMul,true_imp_iff,forall_const,Nat.mul_one,Int.reduceToNat,Nat.reducePow,Int.reducePow,Bool.true_and,Bool.false_and,Bool.and_false,hf,h3,←hF]
  refine hC.use ?_
  simp (disch:=first|assumption|omega|(simp only [List.length_append,List.length_cons,List.length_nil];omega)) only [go_sem,reduceCtorEq,Nat.reduceEqDiff,Nat.reduceAdd,Nat.reduceSub,Nat.reduceMul,Nat.reduceLeDiff,Int.reduceLT,Int.reduceLE,Int.reduceEq,↓reduceIte,Int.reduceNeg,Int.reduceAdd,Int.reduceSub,Int.reduceMul,true_imp_iff,forall_const,Nat.mul_one,Int.reduceToNat,Nat.reducePow,Int.reducePow,Bool.true_and,Bool.false_and,Bool.and_false,hf,h3,ASt.set_set,←hF]
  refine hOf.mono ?_
  rintro v σ' ⟨rfl,rfl⟩
  simp (disch:=first|assumption|omega|(simp only [List.length_append,List.length_cons,List.length_nil];omega)) only [go_sem,reduceCtorEq,Nat.reduceEqDiff,Nat.reduceAdd,Nat.reduceSub,Nat.reduceMul,Nat.reduceLeDiff,Int.reduceLT,Int.reduceLE,Int.reduceEq,↓reduceIte,Int.reduceNeg,Int.reduceAdd,Int.reduceSub,Int.reduceMul,true_imp_iff,forall_const,Nat.mul_one,Int.reduceToNat,Nat.reducePow,Int.reducePow,Bool.true_and,Bool.false_and,Bool.and_false,hf,h3,←hF]
  refine hO1.use ?_
  simp (disch:=first|assumption|omega|(simp only [List.length_append,List.length_cons,List.length_nil];omega)) only [go_sem,reduceCtorEq,Nat.reduceEqDiff,Nat.reduceAdd,Nat.reduceSub,Nat.reduceMul,Nat.reduceLeDiff,Int.reduceLT,Int.reduceLE,Int.reduceEq,↓reduceIte,Int.reduceNeg,Int.reduceAdd,Int.reduceSub,Int.reduceMul,true_imp_iff,forall_const,Nat.mul_one,Int.reduceToNat,Nat.reducePow,Int.reducePow,Bool.true_and,Bool.false_and,Bool.and_false,hf,h3,argAV_any,argAV_len,←hF]
  refine appC_by (bytes:=48) (ys := [argAV (ofP ⟨kd,n,t⟩)]) hga rfl rfl (by simp only [List.length_cons,List.length_nil];omega) (by simp only [List.length_cons,List.length_nil];omega) fun k' σ' hg'=>?_
  rw [hap] at hg' ⊢
  obtain ⟨σ2,hd,hg2⟩:=hg'.off hc0
  simp (disch:=first|assumption|omega|(simp only [List.length_append,List.length_cons,List.length_nil];omega)) only [go_sem,reduceCtorEq,Nat.reduceEqDiff,Nat.reduceAdd,Nat.reduceSub,Nat.reduceMul,Nat.reduceLeDiff,Int.reduceLT,Int.reduceLE,Int.reduceEq,↓reduceIte,Int.reduceNeg,Int.reduceAdd,Int.reduceSub,Int.reduceMul,true_imp_iff,forall_const,Nat.mul_one,Int.reduceToNat,Nat.reducePow,Int.reducePow,Bool.true_and,Bool.false_and,Bool.and_false,hf,←hF]
  refine ⟨i+1,by dsimp only;omega,Dr.drop hd ⟨by omega,?_,k',?_,by simpa using hg2⟩⟩
  ·unfold plAV
   simp (disch:=first|assumption|omega|(simp only [List.length_append,List.length_cons,List.length_nil];omega)) only [go_sem,reduceCtorEq,Nat.reduceEqDiff,Nat.reduceAdd,Nat.reduceSub,Nat.reduceMul,Nat.reduceLeDiff,Int.reduceLT,Int.reduceLE,Int.reduceEq,↓reduceIte,Int.reduceNeg,Int.reduceAdd,Int.reduceSub,Int.reduceMul,true_imp_iff,forall_const,Nat.mul_one,Int.reduceToNat,Nat.reducePow,Int.reducePow,Bool.true_and,Bool.false_and,Bool.and_false,hf]
  ·rfl
 ·have hlt':¬ (i:Int)<L.length:=by omega
  have e:L.take i=L:=List.take_of_length_le (by omega)
  rw [e] at h3 hg
  simp (disch:=first|assumption|omega|(simp only [List.length_append,List.length_cons,List.length_nil];omega)) only [go_sem,reduceCtorEq,Nat.reduceEqDiff,Nat.reduceAdd,Nat.reduceSub,Nat.reduceMul,Nat.reduceLeDiff,Int.reduceLT,Int.reduceLE,Int.reduceEq,↓reduceIte,Int.reduceNeg,Int.reduceAdd,Int.reduceSub,Int.reduceMul,true_imp_iff,forall_const,Nat.mul_one,Int.reduceToNat,Nat.reducePow,Int.reducePow,Bool.true_and,Bool.false_and,Bool.and_false,hf,h3,hlt',←hF]
  rw [hF]
  simp (disch:=first|assumption|omega|(simp only [List.length_append,List.length_cons,List.length_nil];omega)) only [go_sem,reduceCtorEq,Nat.reduceEqDiff,Nat.reduceAdd,Nat.reduceSub,Nat.reduceMul,Nat.reduceLeDiff,Int.reduceLT,Int.reduceLE,Int.reduceEq,↓reduceIte,Int.reduceNeg,Int.reduceAdd,Int.reduceSub,Int.reduceMul,true_imp_iff,forall_const,Nat.mul_one,Int.reduceToNat,Nat.reducePow,Int.reducePow,Bool.true_and,Bool.false_and,Bool.and_false,h3]
  exact retC_by hg.drop (.sl _ _) ⟨rfl,rfl⟩
end Go.A
namespace Go.A
open Go.Proofs
/-! 6: tabular/tabularlaw16.awake -/
def c6_7:ACode := .seq (.ops [ oq 0 (.mv (.v (.bool false)))]) (.seq (.ops [ oq 3 (.build [(.int .i64 0),(.int .i64 0),(.str [])] [(0,1,(.v (.int .i64 1))),(1,1,(.v (.int .i64 40000)))]),oq 4 (.build [(.int .i64 0),(.int .i64 0),(.str [])] [(0,1,(.v (.int .i64 2))),(2,1,(.v (.str [54])))]),oq 5 (.bsl 3 [(.t 3),(.t 4)]),oe 6 (.call 11 [(.t 5)]),oe 7 (.call 10 [(.v (.str [76,67,77])),(.t 6)]),oq 1 (.mv (.t 7))]) (.seq (.ops [ oq 8 (.build [(.int .i64 0),(.int .i64 0),(.str [])] [(0,1,(.v (.int .i64 1))),(1,1,(.v (.int .i64 12100)))]),oq 9 (.build [(.int .i64 0),(.int .i64 0),(.str [])] [(0,1,(.v (.int .i64 1))),(1,1,(.v (.int .i64 10000)))]),oq 10 (.bsl 3 [(.t 8),(.t 9)]),oe 11 (.call 11 [(.t 10)]),oe 12 (.call 10 [(.v (.str [82,79,85,78,68,85,80])),(.t 11)]),oq 2 (.mv (.t 12))]) (.seq (.ops [ oq 13 (.mv (.t 1)),oe 14 (.call 14 [(.t 13)]),oq 15 (.build [(.int .i64 0),(.int .i64 0),(.str [])] [(0,1,(.v (.int .i64 1))),(1,1,(.v (.int .i64 120000)))]),oq 16 (.eqs false [(0,0),(1,0),(2,2)] (.t 14) (.t 15)),oq 17 (.mv (.t 16)),⟨some 18,some (17,true),.q (.mv (.t 2)),[]⟩,⟨some 19,some (17,true),.e (.call 14 [(.t 18)]),[]⟩,⟨some 20,some (17,true),.q (.build [(.int .i64 0),(.int .i64 0),(.str [])] [(0,1,(.v (.int .i64 1))),(1,1,(.v (.int .i64 13000)))]),[]⟩,⟨some 21,some (17,true),.q (.eqs false [(0,0),(1,0),(2,2)] (.t 19) (.t 20)),[]⟩,oq 22 (.pick (.t 17) (.t 21) (.v (.bool false))),oq 0 (.mv (.t 22))]) .ret)))
@[go_sem] def c6_7_wp:=wp_of c6_7.eq_1
def c6:AFn:=⟨23,[.t 0],c6_7⟩
theorem c6_ok:compF Tryz.prog Tryz.f6=some c6:=by kernel_rfl
theorem a6 {args:List AV} {σ:ASt} {R:AV->ASt->Prop} (hl:args.length<=23) (h:c6_7.wp Tryz.prog (RetQ [.t 0] R) (init args) σ):ACalls Tryz.prog 6 args σ R:=acalls_of Tryz.func6 c6_ok hl h
end Go.A
namespace Go.A
open Go.Proofs
theorem aw1:argsP [⟨1,40000,[]⟩,⟨2,0,[54]⟩] = [.num 40000,.text [54]]:=by decide +kernel
theorem aw2:argsP [⟨1,12100,[]⟩,⟨1,10000,[]⟩] = [.num 12100,.num 10000]:=by decide +kernel
theorem aw3:manyP false [40000,60000] = .num 120000:=by decide +kernel
theorem aw4:awayP 12100 (placesM [12100,10000]) = .num 13000:=by decide +kernel
theorem aw5:numsA [] [.num 40000,.text [54]] = .inl [40000,60000]:=by decide +kernel
theorem mawake_ok {σ:ASt} (hU:U8 σ) (hT:Tens σ):ACalls Tryz.prog 6 [] σ fun v σ'=>v = .bool true/\σ'=σ:=by
 have hA1:=args_ok hU [⟨1,40000,[]⟩,⟨2,0,[54]⟩] (by simp)
 have hA2:=args_ok hU [⟨1,12100,[]⟩,⟨1,10000,[]⟩] (by simp)
 rw [aw1] at hA1
 rw [aw2] at hA2
 have hL:=call_lcm [.num 40000,.text [54]] [40000,60000] (by intro v hv;simp only [List.mem_cons,List.not_mem_nil,or_false] at hv;rcases hv with rfl|rfl;exact trivial;show [54].length<=100000;decide) aw5 (by simp) (by simp) (by simp) (by simp) (by simp)
 have hUp:=call_up hT (a:=12100) (b:=10000) (by decide) (by decide)
 rw [show decide (sLCM = [71,67,68])=false by decide,aw3] at hL
 rw [aw4] at hUp
 have hT1:=tell_ok (.num 120000)
 have hT2:=tell_ok (.num 13000)
 simp only [PV.av,tellAV,plAV,List.map_cons,List.map_nil] at hA1 hA2 hL hUp hT1 hT2
 unfold sLCM at hL
 unfold sUP at hUp
 refine a6 (by simp) ?_
 simp (disch:=first|assumption|omega|(simp only [List.length_append,List.length_cons,List.length_nil];omega)) only [go_sem,reduceCtorEq,Nat.reduceEqDiff,Nat.reduceAdd,Nat.reduceSub,Nat.reduceMul,Nat.reduceLeDiff,Int.reduceLT,Int.reduceLE,Int.reduceEq,↓reduceIte,Int.reduceNeg,Int.reduceAdd,Int.reduceSub,Int.reduceMul,true_imp_iff,forall_const,Nat.mul_one,Int.reduceToNat,Nat.reducePow,Int.reducePow,Bool.true_and,Bool.false_and,Bool.and_false]
 refine ACalls.shr (by simp (disch:=first|assumption|omega|(simp only [List.length_append,List.length_cons,List.length_nil];omega)) only [go_sem,reduceCtorEq,Nat.reduceEqDiff,Nat.reduceAdd,Nat.reduceSub,Nat.reduceMul,Nat.reduceLeDiff,Int.reduceLT,Int.reduceLE,Int.reduceEq,↓reduceIte,Int.reduceNeg,Int.reduceAdd,Int.reduceSub,Int.reduceMul,true_imp_iff,forall_const,Nat.mul_one,Int.reduceToNat,Nat.reducePow,Int.reducePow,Bool.true_and,Bool.false_and,Bool.and_false]) (hA1.mono ?_)
 rintro v σ' ⟨rfl,rfl⟩
 simp (disch:=first|assumption|omega|(simp only [List.length_append,List.length_cons,List.length_nil];omega)) only [go_sem,reduceCtorEq,Nat.reduceEqDiff,Nat.reduceAdd,Nat.reduceSub,Nat.reduceMul,Nat.reduceLeDiff,Int.reduceLT,Int.reduceLE,Int.reduceEq,↓reduceIte,Int.reduceNeg,Int.reduceAdd,Int.reduceSub,Int.reduceMul,true_imp_iff,forall_const,Nat.mul_one,Int.reduceToNat,Nat.reducePow,Int.reducePow,Bool.true_and,Bool.false_and,Bool.and_false]
 refine hL.use ?_
 simp (disch:=first|assumption|omega|(simp only [List.length_append,List.length_cons,List.length_nil];omega)) only [go_sem,reduceCtorEq,Nat.reduceEqDiff,Nat.reduceAdd,Nat.reduceSub,Nat.reduceMul,Nat.reduceLeDiff,Int.reduceLT,Int.reduceLE,Int.reduceEq,↓reduceIte,Int.reduceNeg,Int.reduceAdd,Int.reduceSub,Int.reduceMul,true_imp_iff,forall_const,Nat.mul_one,Int.reduceToNat,Nat.reducePow,Int.reducePow,Bool.true_and,Bool.false_and,Bool.and_false]
 refine ACalls.shr (by simp (disch:=first|assumption|omega|(simp only [List.length_append,List.length_cons,List.length_nil];omega)) only [go_sem,reduceCtorEq,Nat.reduceEqDiff,Nat.reduceAdd,Nat.reduceSub,Nat.reduceMul,Nat.reduceLeDiff,Int.reduceLT,Int.reduceLE,Int.reduceEq,↓reduceIte,Int.reduceNeg,Int.reduceAdd,Int.reduceSub,Int.reduceMul,true_imp_iff,forall_const,Nat.mul_one,Int.reduceToNat,Nat.reducePow,Int.reducePow,Bool.true_and,Bool.false_and,Bool.and_false]) (hA2.mono ?_)
 rintro v σ' ⟨rfl,rfl⟩
 simp (disch:=first|assumption|omega|(simp only [List.length_append,List.length_cons,List.length_nil];omega)) only [go_sem,reduceCtorEq,Nat.reduceEqDiff,Nat.reduceAdd,Nat.reduceSub,Nat.reduceMul,Nat.reduceLeDiff,Int.reduceLT,Int.reduceLE,Int.reduceEq,↓reduceIte,Int.reduceNeg,Int.reduceAdd,Int.reduceSub,Int.reduceMul,true_imp_iff,forall_const,Nat.mul_one,Int.reduceToNat,Nat.reducePow,Int.reducePow,Bool.true_and,Bool.false_and,Bool.and_false]
 refine hUp.mono ?_
 rintro v σ' ⟨rfl,rfl⟩
 simp (disch:=first|assumption|omega|(simp only [List.length_append,List.length_cons,List.length_nil];omega)) only [go_sem,reduceCtorEq,Nat.reduceEqDiff,Nat.reduceAdd,Nat.reduceSub,Nat.reduceMul,Nat.reduceLeDiff,Int.reduceLT,Int.reduceLE,Int.reduceEq,↓reduceIte,Int.reduceNeg,Int.reduceAdd,Int.reduceSub,Int.reduceMul,true_imp_iff,forall_const,Nat.mul_one,Int.reduceToNat,Nat.reducePow,Int.reducePow,Bool.true_and,Bool.false_and,Bool.and_false]
 refine hT1.use ?_
 simp (disch:=first|assumption|omega|(simp only [List.length_append,List.length_cons,List.length_nil];omega)) only [go_sem,reduceCtorEq,Nat.reduceEqDiff,Nat.reduceAdd,Nat.reduceSub,Nat.reduceMul,Nat.reduceLeDiff,Int.reduceLT,Int.reduceLE,Int.reduceEq,↓reduceIte,Int.reduceNeg,Int.reduceAdd,Int.reduceSub,Int.reduceMul,true_imp_iff,forall_const,Nat.mul_one,Int.reduceToNat,Nat.reducePow,Int.reducePow,Bool.true_and,Bool.false_and,Bool.and_false]
 refine hT2.use ?_
 simp (disch:=first|assumption|omega|(simp only [List.length_append,List.length_cons,List.length_nil];omega)) only [go_sem,reduceCtorEq,Nat.reduceEqDiff,Nat.reduceAdd,Nat.reduceSub,Nat.reduceMul,Nat.reduceLeDiff,Int.reduceLT,Int.reduceLE,Int.reduceEq,↓reduceIte,Int.reduceNeg,Int.reduceAdd,Int.reduceSub,Int.reduceMul,true_imp_iff,forall_const,Nat.mul_one,Int.reduceToNat,Nat.reducePow,Int.reducePow,Bool.true_and,Bool.false_and,Bool.and_false]
 exact retC_by (by repeat' (first|exact Drop.refl _|with_reducible refine Drop.off ?_ (by assumption))) (.refl _) ⟨rfl,rfl⟩
end Go.A
namespace Go.A
open Go.Proofs
/-! 5: tabular/tabularlaw16.Few -/
def c5_9:ACode := .seq (.ops [ oq 4 (.mv (.v (.sl .full [])))]) (.seq (.seq (.ops [ oq 5 (.mv (.t 0)),oq 6 (.len (.t 5)),oq 7 (.mv (.t 1)),oq 8 (.bin .gtr (.t 6) (.t 7))]) (.cond (.t 8) (.seq (.ops [ oq 9 (.mv (.t 0)),oq 10 (.mv (.t 1)),oq 11 (.slto (false,3) (.t 9) (.t 10)),oq 4 (.mv (.t 11))]) .ret) .skip)) (.seq (.ops [ oq 12 (.mv (.t 0)),oq 4 (.mv (.t 12))]) .ret))
@[go_sem] def c5_9_wp:=wp_of c5_9.eq_1
def c5:AFn:=⟨13,[.t 4],c5_9⟩
theorem c5_ok:compF Tryz.prog Tryz.f5=some c5:=by kernel_rfl
theorem a5 {args:List AV} {σ:ASt} {R:AV->ASt->Prop} (hl:args.length<=13) (h:c5_9.wp Tryz.prog (RetQ [.t 4] R) (init args) σ):ACalls Tryz.prog 5 args σ R:=acalls_of Tryz.func5 c5_ok hl h
end Go.A
namespace Go.A
open Go.Proofs
theorem few_ok (L:List Pl) (n:Nat) (hn:L.length<=9223372036854775807):Pure Tryz.prog 5 [.sl .shr (L.map plAV),.int .i64 n] (.sl .shr ((L.take n).map plAV)):=by
 intro σ
 refine a5 (by simp) ?_
 by_cases h:n<L.length
 ·have h':(n:Int)<L.length:=by omega
  have hs:=slV_to (f:=plAV) (s:=3) (k := .shr) (L:=L) (j:=n) (by omega)
  simp (disch:=first|assumption|omega|(simp only [List.length_append,List.length_cons,List.length_nil];omega)) only [go_sem,reduceCtorEq,Nat.reduceEqDiff,Nat.reduceAdd,Nat.reduceSub,Nat.reduceMul,Nat.reduceLeDiff,Int.reduceLT,Int.reduceLE,Int.reduceEq,↓reduceIte,Int.reduceNeg,Int.reduceAdd,Int.reduceSub,Int.reduceMul,true_imp_iff,forall_const,Nat.mul_one,Int.reduceToNat,Nat.reducePow,Int.reducePow,Bool.true_and,Bool.false_and,Bool.and_false,h',hs]
  exact retC_by (by repeat' (first|exact Drop.refl _|with_reducible refine Drop.off ?_ (by assumption))) (.refl _) ⟨rfl,rfl⟩
 ·have h':¬ (n:Int)<L.length:=by omega
  rw [List.take_of_length_le (by omega)]
  simp (disch:=first|assumption|omega|(simp only [List.length_append,List.length_cons,List.length_nil];omega)) only [go_sem,reduceCtorEq,Nat.reduceEqDiff,Nat.reduceAdd,Nat.reduceSub,Nat.reduceMul,Nat.reduceLeDiff,Int.reduceLT,Int.reduceLE,Int.reduceEq,↓reduceIte,Int.reduceNeg,Int.reduceAdd,Int.reduceSub,Int.reduceMul,true_imp_iff,forall_const,Nat.mul_one,Int.reduceToNat,Nat.reducePow,Int.reducePow,Bool.true_and,Bool.false_and,Bool.and_false,h']
  exact retC_by (by repeat' (first|exact Drop.refl _|with_reducible refine Drop.off ?_ (by assumption))) (.refl _) ⟨rfl,rfl⟩
end Go.A
namespace Go.A
open Go.Proofs
/-! 3: tabular/tabularlaw16.MathsCalls -/
def c3_7:ACode := .seq (.ops [ oq 4 (.mv (.v (.bool false)))]) (.seq (.ops [ oq 5 (.mv (.t 0)),oe 6 (.call 4 [(.t 5),(.v (.int .i64 12))]),oq 0 (.mv (.t 6))]) (.seq (.ops [ oq 7 (.mv (.t 1)),oe 8 (.call 5 [(.t 7),(.v (.int .i64 32))]),oq 1 (.mv (.t 8))]) (.seq (.ops [ oe 9 (.call 6 []),oq 10 (.mv (.t 9)),⟨some 11,some (10,true),.q (.mv (.t 0)),[]⟩,⟨some 12,some (10,true),.e (.call 7 [(.t 11)]),[]⟩,⟨some 13,some (10,true),.q (.mv (.t 0)),[]⟩,⟨some 14,some (10,true),.e (.call 8 [(.t 13)]),[]⟩,⟨some 15,some (10,true),.q (.eq .b false (.t 12) (.t 14)),[]⟩,oq 16 (.pick (.t 10) (.t 15) (.v (.bool false))),oq 17 (.mv (.t 16)),⟨some 18,some (17,true),.q (.mv (.t 0)),[]⟩,⟨some 19,some (17,true),.q (.mv (.t 1)),[]⟩,⟨some 20,some (17,true),.e (.call 11 [(.t 19)]),[]⟩,⟨some 21,some (17,true),.e (.call 10 [(.t 18),(.t 20)]),[]⟩,⟨some 22,some (17,true),.e (.call 9 [(.t 21)]),[]⟩,⟨some 23,some (17,true),.q (.mv (.t 0)),[]⟩,⟨some 24,some (17,true),.q (.mv (.t 1)),[]⟩,⟨some 25,some (17,true),.e (.call 13 [(.t 24)]),[]⟩,⟨some 26,some (17,true),.e (.call 12 [(.t 23),(.t 25)]),[]⟩,⟨some 27,some (17,true),.q (.eqs false [(0,0),(1,0),(2,2)] (.t 22) (.t 26)),[]⟩,oq 28 (.pick (.t 17) (.t 27) (.v (.bool false))),oq 4 (.mv (.t 28))]) .ret)))
@[go_sem] def c3_7_wp:=wp_of c3_7.eq_1
def c3:AFn:=⟨29,[.t 4],c3_7⟩
theorem c3_ok:compF Tryz.prog Tryz.f3=some c3:=by kernel_rfl
theorem a3 {args:List AV} {σ:ASt} {R:AV->ASt->Prop} (hl:args.length<=29) (h:c3_7.wp Tryz.prog (RetQ [.t 4] R) (init args) σ):ACalls Tryz.prog 3 args σ R:=acalls_of Tryz.func3 c3_ok hl h
/-! 9: tabular/tabularlaw15.Told -/
def c9_5:ACode := .seq (.ops [ oe 2 (.alloc [(.int .i64 0),(.int .i64 0),(.str [])])]) (.seq (.ops [ oq 4 (.mv (.t 0)),oe 5 (.call 14 [(.t 4)]),oe 3 (.alloc [(.int .i64 0),(.int .i64 0),(.str [])]),oz (.store 3 (.t 3) (.t 5))]) (.seq (.ops [ oq 6 (.fa 0 (.t 3)),oq 7 (.ld none (.t 6)),oq 8 (.fa 1 (.t 3)),oq 9 (.ld none (.t 8)),oq 10 (.fa 2 (.t 3)),oq 11 (.ld none (.t 10)),oq 12 (.build [(.int .i64 0),(.int .i64 0),(.str [])] [(0,1,(.t 7)),(1,1,(.t 9)),(2,1,(.t 11))]),oz (.store 3 (.t 2) (.t 12))]) .ret))
@[go_sem] def c9_5_wp:=wp_of c9_5.eq_1
def c9:AFn:=⟨13,[.c 2 (some 3)],c9_5⟩
theorem c9_ok:compF Tryz.prog Tryz.f9=some c9:=by kernel_rfl
theorem a9 {args:List AV} {σ:ASt} {R:AV->ASt->Prop} (hl:args.length<=13) (h:c9_5.wp Tryz.prog (RetQ [.c 2 (some 3)] R) (init args) σ):ACalls Tryz.prog 9 args σ R:=acalls_of Tryz.func9 c9_ok hl h
/-! 13: tabular/tabularlaw16.Told -/
def c13_12:ACode := .seq (.ops [ oq 11 (.bin .lss (.t 10) (.t 9))]) (.seq (.cond (.t 11) .skip (.exit 0)) (.seq (.block 1 (.seq (.ops [ oq 12 (.ia 4 (.t 8) (.t 10)),oq 13 (.ld (some 4) (.t 12)),oe 5 (.alloc [(.int .i64 0),(.int .i64 0),(.bool false),(.sl .full [])]),oz (.store 4 (.t 5) (.t 13))]) (.ops [ oq 14 (.mv (.t 3)),oq 15 (.ld (some 4) (.t 5)),oe 16 (.call 56 [(.t 15)]),oe 17 (.call 9 [(.t 16)]),oq 18 (.bsl 3 [(.t 17)]),oe 19 (.app 28 3 32 [(.int .i64 0),(.int .i64 0),(.str [])] (.t 14) (.t 18)),oq 3 (.mv (.t 19))]))) (.ops [ oq 20 (.bin .add (.t 10) (.v (.int .i64 1))),oq 10 (.mv (.t 20))])))
def c13_17:ACode := .seq (.ops [ oq 21 (.mv (.t 3)),oq 2 (.mv (.t 21))]) .ret
def c13_20:ACode := .seq (.ops [ oq 2 (.mv (.v (.sl .full [])))]) (.seq (.ops [ oq 6 (.bsl 3 []),oq 3 (.mv (.t 6))]) (.seq (.seq (.ops [ oq 7 (.mv (.t 0)),oe 8 (.call 11 [(.t 7)]),oq 9 (.len (.t 8)),oq 10 (.mv (.v (.int .i64 0)))]) (.block 0 (.loop c13_12))) c13_17))
@[go_sem] def c13_12_wp:=wp_of c13_12.eq_1
@[go_sem] def c13_17_wp:=wp_of c13_17.eq_1
@[go_sem] def c13_20_wp:=wp_of c13_20.eq_1
def c13:AFn:=⟨22,[.t 2],c13_20⟩
theorem c13_ok:compF Tryz.prog Tryz.f13=some c13:=by kernel_rfl
theorem a13 {args:List AV} {σ:ASt} {R:AV->ASt->Prop} (hl:args.length<=22) (h:c13_20.wp Tryz.prog (RetQ [.t 2] R) (init args) σ):ACalls Tryz.prog 13 args σ R:=acalls_of Tryz.func13 c13_ok hl h
end Go.A
