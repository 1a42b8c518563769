/- Part 9 of what MathsCalls leans on: Rv Ga Za Zu Eg Jg CodeJm Jm CodeRw Rw CodeRx Rx. -/
import Derived.Test.YtpbiocfpbcpfkaaGreatDoorProg
import Derived.Lib.MapLaws
import Derived.Lib.RuneCount
import Derived.Lib.LaidU8
import Derived.KernelRfl
import Derived.Test.YtpbiocfpbcpfkaaGreatDoorZMathsCallsh
set_option linter.defProp false
set_option linter.unusedSimpArgs false
set_option linter.unusedVariables false
set_option maxRecDepth 100000
namespace Go.A
open Go.Proofs
def powV (x y:Int):PV:=if y.tmod 10000≠0 then .fail 2 else if x=0/\y<0 then .fail 1 else cntP (powD x (y.tdiv 10000))
theorem vpower_ok {x y:Int} (hx:x.natAbs<=999999999999999999) (hy:y.natAbs<=999999999999999999):Pure Tryz.prog 31 [.int .i64 x,.int .i64 y] (powV x y).av:=by
 intro σ
 have hI:=isInt_ok y
 have hW:=whole_ok hy
 have hP:=pow_ok x (y.tdiv 10000) (by omega)
 have hC:=counted_ok (powD x (y.tdiv 10000))
 unfold powV
 refine a31 (by simp) ?_
 simp (disch:=first|assumption|omega|(simp only [List.length_append,List.length_cons,List.length_nil];omega)) only [go_sem,reduceCtorEq,Nat.reduceEqDiff,Nat.reduceAdd,Nat.reduceSub,Nat.reduceMul,Nat.reduceLeDiff,Int.reduceLT,Int.reduceLE,Int.reduceEq,↓reduceIte,Int.reduceNeg,Int.reduceAdd,Int.reduceSub,Int.reduceMul,true_imp_iff,forall_const,Nat.mul_one,Int.reduceToNat,Nat.reducePow,Int.reducePow,Bool.true_and,Bool.false_and,Bool.and_false]
 refine hI.use ?_
 by_cases h0:y.tmod 10000=0
 ·rw [if_neg (fun h=>h h0)]
  by_cases h1:x=0
  ·by_cases h2:y<0
   ·rw [if_pos ⟨h1,h2⟩]
    simp only [PV.av]
    simp (disch:=first|assumption|omega|(simp only [List.length_append,List.length_cons,List.length_nil];omega)) only [go_sem,reduceCtorEq,Nat.reduceEqDiff,Nat.reduceAdd,Nat.reduceSub,Nat.reduceMul,Nat.reduceLeDiff,Int.reduceLT,Int.reduceLE,Int.reduceEq,↓reduceIte,Int.reduceNeg,Int.reduceAdd,Int.reduceSub,Int.reduceMul,true_imp_iff,forall_const,Nat.mul_one,Int.reduceToNat,Nat.reducePow,Int.reducePow,Bool.true_and,Bool.false_and,Bool.and_false,h0,h1,h2]
    exact retC_by (by repeat' (first|exact Drop.refl _|with_reducible refine Drop.off ?_ (by assumption))) (.refl _) ⟨rfl,rfl⟩
   ·rw [if_neg (fun h=>h2 h.2)]
    simp only [resAV] at hP
    generalize powD x (y.tdiv 10000)=D at *
    generalize (cntP D).av=V at *
    generalize y.tdiv 10000=z at *
    simp (disch:=first|assumption|omega|(simp only [List.length_append,List.length_cons,List.length_nil];omega)) only [go_sem,reduceCtorEq,Nat.reduceEqDiff,Nat.reduceAdd,Nat.reduceSub,Nat.reduceMul,Nat.reduceLeDiff,Int.reduceLT,Int.reduceLE,Int.reduceEq,↓reduceIte,Int.reduceNeg,Int.reduceAdd,Int.reduceSub,Int.reduceMul,true_imp_iff,forall_const,Nat.mul_one,Int.reduceToNat,Nat.reducePow,Int.reducePow,Bool.true_and,Bool.false_and,Bool.and_false,h0,h1,h2]
    refine hW.use ?_
    rw [<-h1]
    simp (disch:=first|assumption|omega|(simp only [List.length_append,List.length_cons,List.length_nil];omega)) only [go_sem,reduceCtorEq,Nat.reduceEqDiff,Nat.reduceAdd,Nat.reduceSub,Nat.reduceMul,Nat.reduceLeDiff,Int.reduceLT,Int.reduceLE,Int.reduceEq,↓reduceIte,Int.reduceNeg,Int.reduceAdd,Int.reduceSub,Int.reduceMul,true_imp_iff,forall_const,Nat.mul_one,Int.reduceToNat,Nat.reducePow,Int.reducePow,Bool.true_and,Bool.false_and,Bool.and_false]
    refine hP.use ?_
    simp (disch:=first|assumption|omega|(simp only [List.length_append,List.length_cons,List.length_nil];omega)) only [go_sem,reduceCtorEq,Nat.reduceEqDiff,Nat.reduceAdd,Nat.reduceSub,Nat.reduceMul,Nat.reduceLeDiff,Int.reduceLT,Int.reduceLE,Int.reduceEq,↓reduceIte,Int.reduceNeg,Int.reduceAdd,Int.reduceSub,Int.reduceMul,true_imp_iff,forall_const,Nat.mul_one,Int.reduceToNat,Nat.reducePow,Int.reducePow,Bool.true_and,Bool.false_and,Bool.and_false]
    refine hC.use ?_
    simp (disch:=first|assumption|omega|(simp only [List.length_append,List.length_cons,List.length_nil];omega)) only [go_sem,reduceCtorEq,Nat.reduceEqDiff,Nat.reduceAdd,Nat.reduceSub,Nat.reduceMul,Nat.reduceLeDiff,Int.reduceLT,Int.reduceLE,Int.reduceEq,↓reduceIte,Int.reduceNeg,Int.reduceAdd,Int.reduceSub,Int.reduceMul,true_imp_iff,forall_const,Nat.mul_one,Int.reduceToNat,Nat.reducePow,Int.reducePow,Bool.true_and,Bool.false_and,Bool.and_false]
    exact retC_by (by repeat' (first|exact Drop.refl _|with_reducible refine Drop.off ?_ (by assumption))) (.refl _) ⟨rfl,rfl⟩
  ·rw [if_neg (fun h=>h1 h.1)]
   simp only [resAV] at hP
   generalize powD x (y.tdiv 10000)=D at *
   generalize (cntP D).av=V at *
   generalize y.tdiv 10000=z at *
   simp (disch:=first|assumption|omega|(simp only [List.length_append,List.length_cons,List.length_nil];omega)) only [go_sem,reduceCtorEq,Nat.reduceEqDiff,Nat.reduceAdd,Nat.reduceSub,Nat.reduceMul,Nat.reduceLeDiff,Int.reduceLT,Int.reduceLE,Int.reduceEq,↓reduceIte,Int.reduceNeg,Int.reduceAdd,Int.reduceSub,Int.reduceMul,true_imp_iff,forall_const,Nat.mul_one,Int.reduceToNat,Nat.reducePow,Int.reducePow,Bool.true_and,Bool.false_and,Bool.and_false,h0,h1]
   refine hW.use ?_
   simp (disch:=first|assumption|omega|(simp only [List.length_append,List.length_cons,List.length_nil];omega)) only [go_sem,reduceCtorEq,Nat.reduceEqDiff,Nat.reduceAdd,Nat.reduceSub,Nat.reduceMul,Nat.reduceLeDiff,Int.reduceLT,Int.reduceLE,Int.reduceEq,↓reduceIte,Int.reduceNeg,Int.reduceAdd,Int.reduceSub,Int.reduceMul,true_imp_iff,forall_const,Nat.mul_one,Int.reduceToNat,Nat.reducePow,Int.reducePow,Bool.true_and,Bool.false_and,Bool.and_false]
   refine hP.use ?_
   simp (disch:=first|assumption|omega|(simp only [List.length_append,List.length_cons,List.length_nil];omega)) only [go_sem,reduceCtorEq,Nat.reduceEqDiff,Nat.reduceAdd,Nat.reduceSub,Nat.reduceMul,Nat.reduceLeDiff,Int.reduceLT,Int.reduceLE,Int.reduceEq,↓reduceIte,Int.reduceNeg,Int.reduceAdd,Int.reduceSub,Int.reduceMul,true_imp_iff,forall_const,Nat.mul_one,Int.reduceToNat,Nat.reducePow,Int.reducePow,Bool.true_and,Bool.false_and,Bool.and_false]
   refine hC.use ?_
   simp (disch:=first|assumption|omega|(simp only [List.length_append,List.length_cons,List.length_nil];omega)) only [go_sem,reduceCtorEq,Nat.reduceEqDiff,Nat.reduceAdd,Nat.reduceSub,Nat.reduceMul,Nat.reduceLeDiff,Int.reduceLT,Int.reduceLE,Int.reduceEq,↓reduceIte,Int.reduceNeg,Int.reduceAdd,Int.reduceSub,Int.reduceMul,true_imp_iff,forall_const,Nat.mul_one,Int.reduceToNat,Nat.reducePow,Int.reducePow,Bool.true_and,Bool.false_and,Bool.and_false]
   exact retC_by (by repeat' (first|exact Drop.refl _|with_reducible refine Drop.off ?_ (by assumption))) (.refl _) ⟨rfl,rfl⟩
 ·rw [if_pos h0]
  simp only [PV.av]
  simp (disch:=first|assumption|omega|(simp only [List.length_append,List.length_cons,List.length_nil];omega)) only [go_sem,reduceCtorEq,Nat.reduceEqDiff,Nat.reduceAdd,Nat.reduceSub,Nat.reduceMul,Nat.reduceLeDiff,Int.reduceLT,Int.reduceLE,Int.reduceEq,↓reduceIte,Int.reduceNeg,Int.reduceAdd,Int.reduceSub,Int.reduceMul,true_imp_iff,forall_const,Nat.mul_one,Int.reduceToNat,Nat.reducePow,Int.reducePow,Bool.true_and,Bool.false_and,Bool.and_false,h0]
  exact retC_by (by repeat' (first|exact Drop.refl _|with_reducible refine Drop.off ?_ (by assumption))) (.refl _) ⟨rfl,rfl⟩
def stepV (up:Bool) (a s:Int):PV:=if s=0 then .num 0 else if s<0 then .fail 2 else cntP (if up=true then ceilP a s else fitP (a-a % s))
theorem stepped_ok (up:Bool) {a s:Int} (ha:a.natAbs<=999999999999999999) (hs:s.natAbs<=999999999999999999):Pure Tryz.prog 26 [.int .i64 a,.int .i64 s,.bool up] (stepV up a s).av:=by
 intro σ
 unfold stepV
 refine a26 (by simp) ?_
 by_cases h0:s=0
 ·rw [if_pos h0]
  simp only [PV.av]
  simp (disch:=first|assumption|omega|(simp only [List.length_append,List.length_cons,List.length_nil];omega)) only [go_sem,reduceCtorEq,Nat.reduceEqDiff,Nat.reduceAdd,Nat.reduceSub,Nat.reduceMul,Nat.reduceLeDiff,Int.reduceLT,Int.reduceLE,Int.reduceEq,↓reduceIte,Int.reduceNeg,Int.reduceAdd,Int.reduceSub,Int.reduceMul,true_imp_iff,forall_const,Nat.mul_one,Int.reduceToNat,Nat.reducePow,Int.reducePow,Bool.true_and,Bool.false_and,Bool.and_false,h0]
  exact retC_by (by repeat' (first|exact Drop.refl _|with_reducible refine Drop.off ?_ (by assumption))) (.refl _) ⟨rfl,rfl⟩
 rw [if_neg h0]
 by_cases h1:s<0
 ·rw [if_pos h1]
  simp only [PV.av]
  simp (disch:=first|assumption|omega|(simp only [List.length_append,List.length_cons,List.length_nil];omega)) only [go_sem,reduceCtorEq,Nat.reduceEqDiff,Nat.reduceAdd,Nat.reduceSub,Nat.reduceMul,Nat.reduceLeDiff,Int.reduceLT,Int.reduceLE,Int.reduceEq,↓reduceIte,Int.reduceNeg,Int.reduceAdd,Int.reduceSub,Int.reduceMul,true_imp_iff,forall_const,Nat.mul_one,Int.reduceToNat,Nat.reducePow,Int.reducePow,Bool.true_and,Bool.false_and,Bool.and_false,h0,h1]
  exact retC_by (by repeat' (first|exact Drop.refl _|with_reducible refine Drop.off ?_ (by assumption))) (.refl _) ⟨rfl,rfl⟩
 rw [if_neg h1]
 have hC:=ceil_is ha (show 0<s by omega) (by omega)
 have hF:=floor_ok ha (show 0<s by omega) (by omega)
 have kC:=counted_ok (ceilP a s)
 have kF:=counted_ok (fitP (a-a % s))
 simp only [resAV] at hC hF
 cases up with
 | true=>
   simp only [if_true]
   generalize ceilP a s=D at *
   generalize (cntP D).av=V at *
   simp (disch:=first|assumption|omega|(simp only [List.length_append,List.length_cons,List.length_nil];omega)) only [go_sem,reduceCtorEq,Nat.reduceEqDiff,Nat.reduceAdd,Nat.reduceSub,Nat.reduceMul,Nat.reduceLeDiff,Int.reduceLT,Int.reduceLE,Int.reduceEq,↓reduceIte,Int.reduceNeg,Int.reduceAdd,Int.reduceSub,Int.reduceMul,true_imp_iff,forall_const,Nat.mul_one,Int.reduceToNat,Nat.reducePow,Int.reducePow,Bool.true_and,Bool.false_and,Bool.and_false,h0,h1]
   refine hC.use ?_
   simp (disch:=first|assumption|omega|(simp only [List.length_append,List.length_cons,List.length_nil];omega)) only [go_sem,reduceCtorEq,Nat.reduceEqDiff,Nat.reduceAdd,Nat.reduceSub,Nat.reduceMul,Nat.reduceLeDiff,Int.reduceLT,Int.reduceLE,Int.reduceEq,↓reduceIte,Int.reduceNeg,Int.reduceAdd,Int.reduceSub,Int.reduceMul,true_imp_iff,forall_const,Nat.mul_one,Int.reduceToNat,Nat.reducePow,Int.reducePow,Bool.true_and,Bool.false_and,Bool.and_false]
   refine kC.use ?_
   simp (disch:=first|assumption|omega|(simp only [List.length_append,List.length_cons,List.length_nil];omega)) only [go_sem,reduceCtorEq,Nat.reduceEqDiff,Nat.reduceAdd,Nat.reduceSub,Nat.reduceMul,Nat.reduceLeDiff,Int.reduceLT,Int.reduceLE,Int.reduceEq,↓reduceIte,Int.reduceNeg,Int.reduceAdd,Int.reduceSub,Int.reduceMul,true_imp_iff,forall_const,Nat.mul_one,Int.reduceToNat,Nat.reducePow,Int.reducePow,Bool.true_and,Bool.false_and,Bool.and_false]
   exact retC_by (by repeat' (first|exact Drop.refl _|with_reducible refine Drop.off ?_ (by assumption))) (.refl _) ⟨rfl,rfl⟩
 | false=>
   simp only [Bool.false_eq_true,if_false]
   generalize fitP (a-a % s)=D at *
   generalize (cntP D).av=V at *
   simp (disch:=first|assumption|omega|(simp only [List.length_append,List.length_cons,List.length_nil];omega)) only [go_sem,reduceCtorEq,Nat.reduceEqDiff,Nat.reduceAdd,Nat.reduceSub,Nat.reduceMul,Nat.reduceLeDiff,Int.reduceLT,Int.reduceLE,Int.reduceEq,↓reduceIte,Int.reduceNeg,Int.reduceAdd,Int.reduceSub,Int.reduceMul,true_imp_iff,forall_const,Nat.mul_one,Int.reduceToNat,Nat.reducePow,Int.reducePow,Bool.true_and,Bool.false_and,Bool.and_false,h0,h1]
   refine hF.use ?_
   simp (disch:=first|assumption|omega|(simp only [List.length_append,List.length_cons,List.length_nil];omega)) only [go_sem,reduceCtorEq,Nat.reduceEqDiff,Nat.reduceAdd,Nat.reduceSub,Nat.reduceMul,Nat.reduceLeDiff,Int.reduceLT,Int.reduceLE,Int.reduceEq,↓reduceIte,Int.reduceNeg,Int.reduceAdd,Int.reduceSub,Int.reduceMul,true_imp_iff,forall_const,Nat.mul_one,Int.reduceToNat,Nat.reducePow,Int.reducePow,Bool.true_and,Bool.false_and,Bool.and_false]
   refine kF.use ?_
   simp (disch:=first|assumption|omega|(simp only [List.length_append,List.length_cons,List.length_nil];omega)) only [go_sem,reduceCtorEq,Nat.reduceEqDiff,Nat.reduceAdd,Nat.reduceSub,Nat.reduceMul,Nat.reduceLeDiff,Int.reduceLT,Int.reduceLE,Int.reduceEq,↓reduceIte,Int.reduceNeg,Int.reduceAdd,Int.reduceSub,Int.reduceMul,true_imp_iff,forall_const,Nat.mul_one,Int.reduceToNat,Nat.reducePow,Int.reducePow,Bool.true_and,Bool.false_and,Bool.and_false]
   exact retC_by (by repeat' (first|exact Drop.refl _|with_reducible refine Drop.off ?_ (by assumption))) (.refl _) ⟨rfl,rfl⟩
def nearO (A S:Int):Option Int:=if S-A % S<=A % S then fitP (A-A % S+S) else some (A-A % S)
def nearV (a s:Int):PV:=if s=0 then .num 0 else if a≠0/\decide (a<0)≠decide (s<0) then .fail 2 else cntP ((nearO a.natAbs s.natAbs).map fun n=>if a<0 then -n else n)
set_option maxHeartbeats 1000000 in
theorem nearest_ok {a s:Int} (ha:a.natAbs<=999999999999999999) (hs:s.natAbs<=999999999999999999):Pure Tryz.prog 28 [.int .i64 a,.int .i64 s] (nearV a s).av:=by
 intro σ
 unfold nearV
 refine a28 (by simp) ?_
 by_cases h0:s=0
 ·rw [if_pos h0]
  simp only [PV.av]
  simp (disch:=first|assumption|omega|(simp only [List.length_append,List.length_cons,List.length_nil];omega)) only [go_sem,reduceCtorEq,Nat.reduceEqDiff,Nat.reduceAdd,Nat.reduceSub,Nat.reduceMul,Nat.reduceLeDiff,Int.reduceLT,Int.reduceLE,Int.reduceEq,↓reduceIte,Int.reduceNeg,Int.reduceAdd,Int.reduceSub,Int.reduceMul,true_imp_iff,forall_const,Nat.mul_one,Int.reduceToNat,Nat.reducePow,Int.reducePow,Bool.true_and,Bool.false_and,Bool.and_false,h0]
  exact retC_by (by repeat' (first|exact Drop.refl _|with_reducible refine Drop.off ?_ (by assumption))) (.refl _) ⟨rfl,rfl⟩
 rw [if_neg h0]
 by_cases h1:a≠0/\decide (a<0)≠decide (s<0)
 ·obtain ⟨h1,h2⟩:=h1
  rw [if_pos ⟨h1,h2⟩]
  have h2':(!(decide (a<0)==decide (s<0)))=true:=by simpa using h2
  simp only [PV.av]
  simp (disch:=first|assumption|omega|(simp only [List.length_append,List.length_cons,List.length_nil];omega)) only [go_sem,reduceCtorEq,Nat.reduceEqDiff,Nat.reduceAdd,Nat.reduceSub,Nat.reduceMul,Nat.reduceLeDiff,Int.reduceLT,Int.reduceLE,Int.reduceEq,↓reduceIte,Int.reduceNeg,Int.reduceAdd,Int.reduceSub,Int.reduceMul,true_imp_iff,forall_const,Nat.mul_one,Int.reduceToNat,Nat.reducePow,Int.reducePow,Bool.true_and,Bool.false_and,Bool.and_false,h0,h1,h2']
  exact retC_by (by repeat' (first|exact Drop.refl _|with_reducible refine Drop.off ?_ (by assumption))) (.refl _) ⟨rfl,rfl⟩
 rw [if_neg h1]
 have hA:=abs_ok a (by omega) (by omega)
 have hB:=abs_ok s (by omega) (by omega)
 obtain ⟨A,hAe⟩:∃ A:Nat,a.natAbs=A:=⟨_,rfl⟩
 obtain ⟨S,hSe⟩:∃ S:Nat,s.natAbs=S:=⟨_,rfl⟩
 rw [hAe] at hA ⊢
 rw [hSe] at hB ⊢
 have hS0:(0:Int)<(S:Int):=by omega
 have hF:=floor_ok (a:=(A:Int)) (b:=(S:Int)) (by omega) hS0 (by omega)
 have m1:=Int.emod_nonneg (A:Int) (show (S:Int)≠0 by omega)
 have m2:=Int.emod_lt_of_pos (A:Int) hS0
 have m3:=emod_le (a:=(A:Int)) (b:=(S:Int)) (by omega) hS0
 unfold nearO
 obtain ⟨r,hr⟩:∃ r,(A:Int) % S=r:=⟨_,rfl⟩
 rw [hr] at hF m1 m2 m3 ⊢
 have hfit:fitP (A-r)=some (A-r):=by unfold fitP;rw [if_pos (by omega)]
 rw [hfit] at hF
 simp only [resAV,Option.getD_some,Option.isSome_some] at hF
 obtain ⟨L,hL⟩:∃ L,(A:Int)-r=L:=⟨_,rfl⟩
 rw [hL] at hF ⊢
 have eAL:(A:Int)-L=r:=by omega
 have hD:=add_ok (a:=L) (b:=(S:Int)) (by omega)
 obtain ⟨V,hV⟩:∃ V,(cntP (Option.map (fun n=>if a<0 then -n else n) (if (S:Int)-r<=r then fitP (L+S) else some L))).av=V:=⟨_,rfl⟩
 rw [hV]
 obtain ⟨G,hG⟩:∃ G,G=ACode.wp Tryz.prog c28_35:=⟨_,rfl⟩
 have hgo:∀ (a0:AFr),(a0 0 = .int .i64 a/\a0 1 = .int .i64 s/\a0 5 = .int .i64 S)->G (RetQ [.t 4] fun v σ'=>v=V/\σ'=σ) a0 σ:=by
  intro a0 hf
  rw [hG,← hV]
  simp (disch:=first|assumption|omega|(simp only [List.length_append,List.length_cons,List.length_nil];omega)) only [go_sem,reduceCtorEq,Nat.reduceEqDiff,Nat.reduceAdd,Nat.reduceSub,Nat.reduceMul,Nat.reduceLeDiff,Int.reduceLT,Int.reduceLE,Int.reduceEq,↓reduceIte,Int.reduceNeg,Int.reduceAdd,Int.reduceSub,Int.reduceMul,true_imp_iff,forall_const,Nat.mul_one,Int.reduceToNat,Nat.reducePow,Int.reducePow,Bool.true_and,Bool.false_and,Bool.and_false,hf]
  refine hA.use ?_
  simp (disch:=first|assumption|omega|(simp only [List.length_append,List.length_cons,List.length_nil];omega)) only [go_sem,reduceCtorEq,Nat.reduceEqDiff,Nat.reduceAdd,Nat.reduceSub,Nat.reduceMul,Nat.reduceLeDiff,Int.reduceLT,Int.reduceLE,Int.reduceEq,↓reduceIte,Int.reduceNeg,Int.reduceAdd,Int.reduceSub,Int.reduceMul,true_imp_iff,forall_const,Nat.mul_one,Int.reduceToNat,Nat.reducePow,Int.reducePow,Bool.true_and,Bool.false_and,Bool.and_false,hf]
  refine hF.use ?_
  simp (disch:=first|assumption|omega|(simp only [List.length_append,List.length_cons,List.length_nil];omega)) only [go_sem,reduceCtorEq,Nat.reduceEqDiff,Nat.reduceAdd,Nat.reduceSub,Nat.reduceMul,Nat.reduceLeDiff,Int.reduceLT,Int.reduceLE,Int.reduceEq,↓reduceIte,Int.reduceNeg,Int.reduceAdd,Int.reduceSub,Int.reduceMul,true_imp_iff,forall_const,Nat.mul_one,Int.reduceToNat,Nat.reducePow,Int.reducePow,Bool.true_and,Bool.false_and,Bool.and_false,hf]
  refine hA.use ?_
  by_cases h3:(S:Int)-r<=r
  ·rw [if_pos h3]
   simp only [resAV] at hD
   cases hq:fitP (L+S) with
   | none=>
     rw [hq] at hD
     simp only [Option.getD_none,Option.isSome_none] at hD
     simp only [Option.map_none,cntP,PV.av]
     simp (disch:=first|assumption|omega|(simp only [List.length_append,List.length_cons,List.length_nil];omega)) only [go_sem,reduceCtorEq,Nat.reduceEqDiff,Nat.reduceAdd,Nat.reduceSub,Nat.reduceMul,Nat.reduceLeDiff,Int.reduceLT,Int.reduceLE,Int.reduceEq,↓reduceIte,Int.reduceNeg,Int.reduceAdd,Int.reduceSub,Int.reduceMul,true_imp_iff,forall_const,Nat.mul_one,Int.reduceToNat,Nat.reducePow,Int.reducePow,Bool.true_and,Bool.false_and,Bool.and_false,hf,eAL,h3]
     refine hD.use ?_
     simp (disch:=first|assumption|omega|(simp only [List.length_append,List.length_cons,List.length_nil];omega)) only [go_sem,reduceCtorEq,Nat.reduceEqDiff,Nat.reduceAdd,Nat.reduceSub,Nat.reduceMul,Nat.reduceLeDiff,Int.reduceLT,Int.reduceLE,Int.reduceEq,↓reduceIte,Int.reduceNeg,Int.reduceAdd,Int.reduceSub,Int.reduceMul,true_imp_iff,forall_const,Nat.mul_one,Int.reduceToNat,Nat.reducePow,Int.reducePow,Bool.true_and,Bool.false_and,Bool.and_false,hf]
     exact retC_by (by repeat' (first|exact Drop.refl _|with_reducible refine Drop.off ?_ (by assumption))) (.refl _) ⟨rfl,rfl⟩
   | some q=>
     rw [hq] at hD
     simp only [Option.getD_some,Option.isSome_some] at hD
     simp only [Option.map_some,cntP,PV.av]
     have hqb:q.natAbs<=999999999999999999:=by
      unfold fitP at hq
      split at hq
      ·injection hq with hq;omega
      ·cases hq
     by_cases h4:a<0
     ·rw [if_pos h4,show -q=0-q by omega]
      simp (disch:=first|assumption|omega|(simp only [List.length_append,List.length_cons,List.length_nil];omega)) only [go_sem,reduceCtorEq,Nat.reduceEqDiff,Nat.reduceAdd,Nat.reduceSub,Nat.reduceMul,Nat.reduceLeDiff,Int.reduceLT,Int.reduceLE,Int.reduceEq,↓reduceIte,Int.reduceNeg,Int.reduceAdd,Int.reduceSub,Int.reduceMul,true_imp_iff,forall_const,Nat.mul_one,Int.reduceToNat,Nat.reducePow,Int.reducePow,Bool.true_and,Bool.false_and,Bool.and_false,hf,eAL,h3,h4]
      refine hD.use ?_
      simp (disch:=first|assumption|omega|(simp only [List.length_append,List.length_cons,List.length_nil];omega)) only [go_sem,reduceCtorEq,Nat.reduceEqDiff,Nat.reduceAdd,Nat.reduceSub,Nat.reduceMul,Nat.reduceLeDiff,Int.reduceLT,Int.reduceLE,Int.reduceEq,↓reduceIte,Int.reduceNeg,Int.reduceAdd,Int.reduceSub,Int.reduceMul,true_imp_iff,forall_const,Nat.mul_one,Int.reduceToNat,Nat.reducePow,Int.reducePow,Bool.true_and,Bool.false_and,Bool.and_false,hf,h4]
      exact retC_by (by repeat' (first|exact Drop.refl _|with_reducible refine Drop.off ?_ (by assumption))) (.refl _) ⟨rfl,rfl⟩
     ·rw [if_neg h4]
      simp (disch:=first|assumption|omega|(simp only [List.length_append,List.length_cons,List.length_nil];omega)) only [go_sem,reduceCtorEq,Nat.reduceEqDiff,Nat.reduceAdd,Nat.reduceSub,Nat.reduceMul,Nat.reduceLeDiff,Int.reduceLT,Int.reduceLE,Int.reduceEq,↓reduceIte,Int.reduceNeg,Int.reduceAdd,Int.reduceSub,Int.reduceMul,true_imp_iff,forall_const,Nat.mul_one,Int.reduceToNat,Nat.reducePow,Int.reducePow,Bool.true_and,Bool.false_and,Bool.and_false,hf,eAL,h3,h4]
      refine hD.use ?_
      simp (disch:=first|assumption|omega|(simp only [List.length_append,List.length_cons,List.length_nil];omega)) only [go_sem,reduceCtorEq,Nat.reduceEqDiff,Nat.reduceAdd,Nat.reduceSub,Nat.reduceMul,Nat.reduceLeDiff,Int.reduceLT,Int.reduceLE,Int.reduceEq,↓reduceIte,Int.reduceNeg,Int.reduceAdd,Int.reduceSub,Int.reduceMul,true_imp_iff,forall_const,Nat.mul_one,Int.reduceToNat,Nat.reducePow,Int.reducePow,Bool.true_and,Bool.false_and,Bool.and_false,hf,h4]
      exact retC_by (by repeat' (first|exact Drop.refl _|with_reducible refine Drop.off ?_ (by assumption))) (.refl _) ⟨rfl,rfl⟩
  ·rw [if_neg h3]
   simp only [Option.map_some,cntP,PV.av]
   by_cases h4:a<0
   ·rw [if_pos h4,show -L=0-L by omega]
    simp (disch:=first|assumption|omega|(simp only [List.length_append,List.length_cons,List.length_nil];omega)) only [go_sem,reduceCtorEq,Nat.reduceEqDiff,Nat.reduceAdd,Nat.reduceSub,Nat.reduceMul,Nat.reduceLeDiff,Int.reduceLT,Int.reduceLE,Int.reduceEq,↓reduceIte,Int.reduceNeg,Int.reduceAdd,Int.reduceSub,Int.reduceMul,true_imp_iff,forall_const,Nat.mul_one,Int.reduceToNat,Nat.reducePow,Int.reducePow,Bool.true_and,Bool.false_and,Bool.and_false,hf,eAL,h3,h4]
    exact retC_by (by repeat' (first|exact Drop.refl _|with_reducible refine Drop.off ?_ (by assumption))) (.refl _) ⟨rfl,rfl⟩
   ·rw [if_neg h4]
    simp (disch:=first|assumption|omega|(simp only [List.length_append,List.length_cons,List.length_nil];omega)) only [go_sem,reduceCtorEq,Nat.reduceEqDiff,Nat.reduceAdd,Nat.reduceSub,Nat.reduceMul,Nat.reduceLeDiff,Int.reduceLT,Int.reduceLE,Int.reduceEq,↓reduceIte,Int.reduceNeg,Int.reduceAdd,Int.reduceSub,Int.reduceMul,true_imp_iff,forall_const,Nat.mul_one,Int.reduceToNat,Nat.reducePow,Int.reducePow,Bool.true_and,Bool.false_and,Bool.and_false,hf,eAL,h3,h4]
    exact retC_by (by repeat' (first|exact Drop.refl _|with_reducible refine Drop.off ?_ (by assumption))) (.refl _) ⟨rfl,rfl⟩
 by_cases ha0:a=0
 ·simp (disch:=first|assumption|omega|(simp only [List.length_append,List.length_cons,List.length_nil];omega)) only [go_sem,reduceCtorEq,Nat.reduceEqDiff,Nat.reduceAdd,Nat.reduceSub,Nat.reduceMul,Nat.reduceLeDiff,Int.reduceLT,Int.reduceLE,Int.reduceEq,↓reduceIte,Int.reduceNeg,Int.reduceAdd,Int.reduceSub,Int.reduceMul,true_imp_iff,forall_const,Nat.mul_one,Int.reduceToNat,Nat.reducePow,Int.reducePow,Bool.true_and,Bool.false_and,Bool.and_false,h0,ha0,←hG]
  refine hB.use ?_
  rw [<-ha0]
  simp (disch:=first|assumption|omega|(simp only [List.length_append,List.length_cons,List.length_nil];omega)) only [go_sem,reduceCtorEq,Nat.reduceEqDiff,Nat.reduceAdd,Nat.reduceSub,Nat.reduceMul,Nat.reduceLeDiff,Int.reduceLT,Int.reduceLE,Int.reduceEq,↓reduceIte,Int.reduceNeg,Int.reduceAdd,Int.reduceSub,Int.reduceMul,true_imp_iff,forall_const,Nat.mul_one,Int.reduceToNat,Nat.reducePow,Int.reducePow,Bool.true_and,Bool.false_and,Bool.and_false,←hG]
  refine hgo _ ?_
  simp (disch:=first|assumption|omega|(simp only [List.length_append,List.length_cons,List.length_nil];omega)) only [go_sem,reduceCtorEq,Nat.reduceEqDiff,Nat.reduceAdd,Nat.reduceSub,Nat.reduceMul,Nat.reduceLeDiff,Int.reduceLT,Int.reduceLE,Int.reduceEq,↓reduceIte,Int.reduceNeg,Int.reduceAdd,Int.reduceSub,Int.reduceMul,true_imp_iff,forall_const,Nat.mul_one,Int.reduceToNat,Nat.reducePow,Int.reducePow,Bool.true_and,Bool.false_and,Bool.and_false]
 ·have h2':(!(decide (a<0)==decide (s<0)))=false:=by
   have:decide (a<0)=decide (s<0):=Classical.byContradiction fun h=>h1 ⟨ha0,h⟩
   rw [this];simp
  simp (disch:=first|assumption|omega|(simp only [List.length_append,List.length_cons,List.length_nil];omega)) only [go_sem,reduceCtorEq,Nat.reduceEqDiff,Nat.reduceAdd,Nat.reduceSub,Nat.reduceMul,Nat.reduceLeDiff,Int.reduceLT,Int.reduceLE,Int.reduceEq,↓reduceIte,Int.reduceNeg,Int.reduceAdd,Int.reduceSub,Int.reduceMul,true_imp_iff,forall_const,Nat.mul_one,Int.reduceToNat,Nat.reducePow,Int.reducePow,Bool.true_and,Bool.false_and,Bool.and_false,h0,ha0,h2',←hG]
  refine hB.use ?_
  simp (disch:=first|assumption|omega|(simp only [List.length_append,List.length_cons,List.length_nil];omega)) only [go_sem,reduceCtorEq,Nat.reduceEqDiff,Nat.reduceAdd,Nat.reduceSub,Nat.reduceMul,Nat.reduceLeDiff,Int.reduceLT,Int.reduceLE,Int.reduceEq,↓reduceIte,Int.reduceNeg,Int.reduceAdd,Int.reduceSub,Int.reduceMul,true_imp_iff,forall_const,Nat.mul_one,Int.reduceToNat,Nat.reducePow,Int.reducePow,Bool.true_and,Bool.false_and,Bool.and_false,←hG]
  refine hgo _ ?_
  simp (disch:=first|assumption|omega|(simp only [List.length_append,List.length_cons,List.length_nil];omega)) only [go_sem,reduceCtorEq,Nat.reduceEqDiff,Nat.reduceAdd,Nat.reduceSub,Nat.reduceMul,Nat.reduceLeDiff,Int.reduceLT,Int.reduceLE,Int.reduceEq,↓reduceIte,Int.reduceNeg,Int.reduceAdd,Int.reduceSub,Int.reduceMul,true_imp_iff,forall_const,Nat.mul_one,Int.reduceToNat,Nat.reducePow,Int.reducePow,Bool.true_and,Bool.false_and,Bool.and_false]
def facO:Nat->Option Int
 | 0=>some 10000
 | n+1=>(facO n).bind fun p=>mulR p ((n+2:Nat)*10000)
theorem facO_none:∀ {n m:Nat},facO n=none->n<=m->facO m=none
 | n,0,h,hm=>by
   obtain rfl:n=0:=by omega
   exact h
 | n,m+1,h,hm=>by
   by_cases he:n=m+1
   ·subst he;exact h
   ·have:=facO_none h (show n<=m by omega)
    rw [facO,this];rfl
theorem facO_le:∀ {n:Nat} {p:Int},facO n=some p->p.natAbs<=999999999999999999
 | 0,p,h=>by injection h with h;subst h;decide
 | n+1,p,h=>by
   obtain ⟨q,_,hq⟩:=Option.bind_eq_some_iff.1 h
   obtain ⟨h1,h2⟩:=madeP_some hq
   omega
theorem facO_16:facO 16=none:=by decide +kernel
def factV (a:Int):PV:=if a<0 then .fail 2 else cntP (facO (a.toNat / 10000-1))
set_option maxHeartbeats 1000000 in
theorem fact_ok {a:Int} (ha:a.natAbs<=999999999999999999):Pure Tryz.prog 33 [.int .i64 a] (factV a).av:=by
 intro σ
 have hW:=whole_ok ha
 unfold factV
 refine a33 (by simp) ?_
 by_cases h0:a<0
 ·rw [if_pos h0]
  simp only [PV.av]
  simp (disch:=first|assumption|omega|(simp only [List.length_append,List.length_cons,List.length_nil];omega)) only [go_sem,reduceCtorEq,Nat.reduceEqDiff,Nat.reduceAdd,Nat.reduceSub,Nat.reduceMul,Nat.reduceLeDiff,Int.reduceLT,Int.reduceLE,Int.reduceEq,↓reduceIte,Int.reduceNeg,Int.reduceAdd,Int.reduceSub,Int.reduceMul,true_imp_iff,forall_const,Nat.mul_one,Int.reduceToNat,Nat.reducePow,Int.reducePow,Bool.true_and,Bool.false_and,Bool.and_false]
  refine hW.use ?_
  generalize a.tdiv 10000=z at *
  simp (disch:=first|assumption|omega|(simp only [List.length_append,List.length_cons,List.length_nil];omega)) only [go_sem,reduceCtorEq,Nat.reduceEqDiff,Nat.reduceAdd,Nat.reduceSub,Nat.reduceMul,Nat.reduceLeDiff,Int.reduceLT,Int.reduceLE,Int.reduceEq,↓reduceIte,Int.reduceNeg,Int.reduceAdd,Int.reduceSub,Int.reduceMul,true_imp_iff,forall_const,Nat.mul_one,Int.reduceToNat,Nat.reducePow,Int.reducePow,Bool.true_and,Bool.false_and,Bool.and_false,h0]
  exact retC_by (by repeat' (first|exact Drop.refl _|with_reducible refine Drop.off ?_ (by assumption))) (.refl _) ⟨rfl,rfl⟩
 rw [if_neg h0]
 obtain ⟨n,hn⟩:∃ n:Nat,a.toNat / 10000=n:=⟨_,rfl⟩
 have en:a.tdiv 10000=n:=by rw [Int.tdiv_eq_ediv_of_nonneg (by omega)];omega
 rw [en] at hW
 rw [hn]
 clear en
 by_cases h1:30<n
 ·have h1':(30:Int)<n:=by omega
  rw [facO_none facO_16 (show 16<=n-1 by omega)]
  simp only [cntP,PV.av]
  simp (disch:=first|assumption|omega|(simp only [List.length_append,List.length_cons,List.length_nil];omega)) only [go_sem,reduceCtorEq,Nat.reduceEqDiff,Nat.reduceAdd,Nat.reduceSub,Nat.reduceMul,Nat.reduceLeDiff,Int.reduceLT,Int.reduceLE,Int.reduceEq,↓reduceIte,Int.reduceNeg,Int.reduceAdd,Int.reduceSub,Int.reduceMul,true_imp_iff,forall_const,Nat.mul_one,Int.reduceToNat,Nat.reducePow,Int.reducePow,Bool.true_and,Bool.false_and,Bool.and_false]
  refine hW.use ?_
  simp (disch:=first|assumption|omega|(simp only [List.length_append,List.length_cons,List.length_nil];omega)) only [go_sem,reduceCtorEq,Nat.reduceEqDiff,Nat.reduceAdd,Nat.reduceSub,Nat.reduceMul,Nat.reduceLeDiff,Int.reduceLT,Int.reduceLE,Int.reduceEq,↓reduceIte,Int.reduceNeg,Int.reduceAdd,Int.reduceSub,Int.reduceMul,true_imp_iff,forall_const,Nat.mul_one,Int.reduceToNat,Nat.reducePow,Int.reducePow,Bool.true_and,Bool.false_and,Bool.and_false,h0,h1']
  exact retC_by (by repeat' (first|exact Drop.refl _|with_reducible refine Drop.off ?_ (by assumption))) (.refl _) ⟨rfl,rfl⟩
 have h1':¬ (30:Int)<n:=by omega
 simp (disch:=first|assumption|omega|(simp only [List.length_append,List.length_cons,List.length_nil];omega)) only [go_sem,reduceCtorEq,Nat.reduceEqDiff,Nat.reduceAdd,Nat.reduceSub,Nat.reduceMul,Nat.reduceLeDiff,Int.reduceLT,Int.reduceLE,Int.reduceEq,↓reduceIte,Int.reduceNeg,Int.reduceAdd,Int.reduceSub,Int.reduceMul,true_imp_iff,forall_const,Nat.mul_one,Int.reduceToNat,Nat.reducePow,Int.reducePow,Bool.true_and,Bool.false_and,Bool.and_false]
 refine hW.use ?_
 simp (disch:=first|assumption|omega|(simp only [List.length_append,List.length_cons,List.length_nil];omega)) only [go_sem,reduceCtorEq,Nat.reduceEqDiff,Nat.reduceAdd,Nat.reduceSub,Nat.reduceMul,Nat.reduceLeDiff,Int.reduceLT,Int.reduceLE,Int.reduceEq,↓reduceIte,Int.reduceNeg,Int.reduceAdd,Int.reduceSub,Int.reduceMul,true_imp_iff,forall_const,Nat.mul_one,Int.reduceToNat,Nat.reducePow,Int.reducePow,Bool.true_and,Bool.false_and,Bool.and_false,h0,h1']
 refine wp_loop_on (fun (i:Nat) a1 s=>i<=n-1/\(∃ o:Option Int,facO i=o/\(a1 4 = .int .i64 (o.getD 0)/\a1 5 = .bool o.isSome))/\(a1 3 = .int .i64 n/\a1 6 = .int .i64 ((i+2:Nat):Int))/\s=σ) (fun i=>n-i) 0 ⟨Nat.zero_le _,⟨some 10000,rfl,?_⟩,?_,rfl⟩ ?_
 ·simp (disch:=first|assumption|omega|(simp only [List.length_append,List.length_cons,List.length_nil];omega)) only [go_sem,reduceCtorEq,Nat.reduceEqDiff,Nat.reduceAdd,Nat.reduceSub,Nat.reduceMul,Nat.reduceLeDiff,Int.reduceLT,Int.reduceLE,Int.reduceEq,↓reduceIte,Int.reduceNeg,Int.reduceAdd,Int.reduceSub,Int.reduceMul,true_imp_iff,forall_const,Nat.mul_one,Int.reduceToNat,Nat.reducePow,Int.reducePow,Bool.true_and,Bool.false_and,Bool.and_false]
  rfl
 ·simp (disch:=first|assumption|omega|(simp only [List.length_append,List.length_cons,List.length_nil];omega)) only [go_sem,reduceCtorEq,Nat.reduceEqDiff,Nat.reduceAdd,Nat.reduceSub,Nat.reduceMul,Nat.reduceLeDiff,Int.reduceLT,Int.reduceLE,Int.reduceEq,↓reduceIte,Int.reduceNeg,Int.reduceAdd,Int.reduceSub,Int.reduceMul,true_imp_iff,forall_const,Nat.mul_one,Int.reduceToNat,Nat.reducePow,Int.reducePow,Bool.true_and,Bool.false_and,Bool.and_false]
 rintro i a1 s1 ⟨hi,⟨o,ho,hg⟩,hf,rfl⟩
 obtain ⟨I,hI⟩:∃ I:Nat,i+2=I:=⟨_,rfl⟩
 rw [hI] at hf
 by_cases hlt:i<n-1
 ·have hlt':(I:Int)<=n:=by omega
  cases o with
  | none=>
    have hnone:=facO_none ho (Nat.le_of_lt hlt)
    rw [hnone]
    have hC:=counted_ok none
    simp only [Option.getD_none,Option.isSome_none] at hg hC
    generalize (cntP none).av=V at *
    simp (disch:=first|assumption|omega|(simp only [List.length_append,List.length_cons,List.length_nil];omega)) only [go_sem,reduceCtorEq,Nat.reduceEqDiff,Nat.reduceAdd,Nat.reduceSub,Nat.reduceMul,Nat.reduceLeDiff,Int.reduceLT,Int.reduceLE,Int.reduceEq,↓reduceIte,Int.reduceNeg,Int.reduceAdd,Int.reduceSub,Int.reduceMul,true_imp_iff,forall_const,Nat.mul_one,Int.reduceToNat,Nat.reducePow,Int.reducePow,Bool.true_and,Bool.false_and,Bool.and_false,hf,hg,hlt']
    refine hC.use ?_
    simp (disch:=first|assumption|omega|(simp only [List.length_append,List.length_cons,List.length_nil];omega)) only [go_sem,reduceCtorEq,Nat.reduceEqDiff,Nat.reduceAdd,Nat.reduceSub,Nat.reduceMul,Nat.reduceLeDiff,Int.reduceLT,Int.reduceLE,Int.reduceEq,↓reduceIte,Int.reduceNeg,Int.reduceAdd,Int.reduceSub,Int.reduceMul,true_imp_iff,forall_const,Nat.mul_one,Int.reduceToNat,Nat.reducePow,Int.reducePow,Bool.true_and,Bool.false_and,Bool.and_false]
    exact retC_by (by repeat' (first|exact Drop.refl _|with_reducible refine Drop.off ?_ (by assumption))) (.refl _) ⟨rfl,rfl⟩
  | some p=>
    have hp:=facO_le ho
    have hM:=mul_ok p ((I:Int)*10000) (by omega) (by omega)
    have hs:facO (i+1)=mulD p ((I:Int)*10000):=by rw [facO,ho,Option.bind_some,hI,mul_whole (by omega)]
    simp only [Option.getD_some,Option.isSome_some] at hg
    simp only [resAV] at hM
    generalize mulD p ((I:Int)*10000)=D at *
    simp (disch:=first|assumption|omega|(simp only [List.length_append,List.length_cons,List.length_nil];omega)) only [go_sem,reduceCtorEq,Nat.reduceEqDiff,Nat.reduceAdd,Nat.reduceSub,Nat.reduceMul,Nat.reduceLeDiff,Int.reduceLT,Int.reduceLE,Int.reduceEq,↓reduceIte,Int.reduceNeg,Int.reduceAdd,Int.reduceSub,Int.reduceMul,true_imp_iff,forall_const,Nat.mul_one,Int.reduceToNat,Nat.reducePow,Int.reducePow,Bool.true_and,Bool.false_and,Bool.and_false,hf,hg,hlt']
    refine hM.use ?_
    simp (disch:=first|assumption|omega|(simp only [List.length_append,List.length_cons,List.length_nil];omega)) only [go_sem,reduceCtorEq,Nat.reduceEqDiff,Nat.reduceAdd,Nat.reduceSub,Nat.reduceMul,Nat.reduceLeDiff,Int.reduceLT,Int.reduceLE,Int.reduceEq,↓reduceIte,Int.reduceNeg,Int.reduceAdd,Int.reduceSub,Int.reduceMul,true_imp_iff,forall_const,Nat.mul_one,Int.reduceToNat,Nat.reducePow,Int.reducePow,Bool.true_and,Bool.false_and,Bool.and_false,hf,hg]
    refine ⟨i+1,by omega,by omega,⟨D,hs,rfl,rfl⟩,?_⟩
    rw [<-hI]
    simp
    omega
 ·have hlt':¬ (I:Int)<=n:=by omega
  obtain rfl:i=n-1:=by omega
  rw [ho]
  have hC:=counted_ok o
  generalize (cntP o).av=V at *
  simp (disch:=first|assumption|omega|(simp only [List.length_append,List.length_cons,List.length_nil];omega)) only [go_sem,reduceCtorEq,Nat.reduceEqDiff,Nat.reduceAdd,Nat.reduceSub,Nat.reduceMul,Nat.reduceLeDiff,Int.reduceLT,Int.reduceLE,Int.reduceEq,↓reduceIte,Int.reduceNeg,Int.reduceAdd,Int.reduceSub,Int.reduceMul,true_imp_iff,forall_const,Nat.mul_one,Int.reduceToNat,Nat.reducePow,Int.reducePow,Bool.true_and,Bool.false_and,Bool.and_false,hf,hg,hlt']
  refine hC.use ?_
  simp (disch:=first|assumption|omega|(simp only [List.length_append,List.length_cons,List.length_nil];omega)) only [go_sem,reduceCtorEq,Nat.reduceEqDiff,Nat.reduceAdd,Nat.reduceSub,Nat.reduceMul,Nat.reduceLeDiff,Int.reduceLT,Int.reduceLE,Int.reduceEq,↓reduceIte,Int.reduceNeg,Int.reduceAdd,Int.reduceSub,Int.reduceMul,true_imp_iff,forall_const,Nat.mul_one,Int.reduceToNat,Nat.reducePow,Int.reducePow,Bool.true_and,Bool.false_and,Bool.and_false]
  exact retC_by (by repeat' (first|exact Drop.refl _|with_reducible refine Drop.off ?_ (by assumption))) (.refl _) ⟨rfl,rfl⟩
def evenN (a:Int) (odd:Nat):Int:=(fun n:Nat=>(fun m:Nat=>if a<0 then -(m:Int) else m) (if n % 2=odd then n else n+1)) (if a.natAbs % 10000=0 then a.natAbs / 10000 else a.natAbs / 10000+1)
set_option maxHeartbeats 1000000 in
theorem pair_ok {a:Int} (odd:Nat) (ha:a.natAbs<=999999999999999999) (ho:odd<=1):Pure Tryz.prog 34 [.int .i64 a,.int .i64 odd] (cntP (intP (evenN a odd))).av:=by
 intro σ
 have hA:=abs_ok a (by omega) (by omega)
 obtain ⟨A,hAe⟩:∃ A:Nat,a.natAbs=A:=⟨_,rfl⟩
 rw [hAe] at hA ha
 have hW:=whole_ok (a:=(A:Int)) (by omega)
 have eW:(A:Int).tdiv 10000=((A / 10000:Nat):Int):=rfl
 rw [eW] at hW
 have hI:=isInt_ok a
 have eI:decide (a.tmod 10000=0)=decide (A % 10000=0):=by
  rw [decide_eq_decide,← hAe]
  constructor
  ·intro h
   have:=Int.natAbs_tmod a 10000
   rw [h] at this
   simpa using this.symm
  ·exact tmod_zero
 rw [eI] at hI
 unfold evenN
 rw [hAe]
 dsimp only
 refine a34 (by simp) ?_
 obtain ⟨n0,h0⟩:∃ n0,A / 10000=n0:=⟨_,rfl⟩
 rw [h0] at hW ⊢
 obtain ⟨n1,h1⟩:∃ n1,(if A % 10000=0 then n0 else n0+1)=n1:=⟨_,rfl⟩
 rw [h1]
 obtain ⟨n2,h2⟩:∃ n2,(if n1 % 2=odd then n1 else n1+1)=n2:=⟨_,rfl⟩
 rw [h2]
 have hb0:n0<=99999999999999:=by omega
 have hb1:n1<=100000000000000:=by rw [<-h1];split<;>omega
 have hb2:n2<=100000000000001:=by rw [<-h2];split<;>omega
 have kI:∀ z:Int,z.natAbs<=100000000000001->Pure Tryz.prog 67 [.int .i64 z] (.tuple [.int .i64 ((intP z).getD 0),.bool (intP z).isSome]):=by
  intro z hz
  have:=int_ok z (by omega) (by omega)
  simp only [resAV] at this
  exact this
 obtain ⟨G,hG⟩:∃ G,G=ACode.wp Tryz.prog c34_16:=⟨_,rfl⟩
 have g2:∀ (a0:AFr),(a0 0 = .int .i64 a/\a0 5 = .int .i64 n2)->G (RetQ [.t 4] fun v σ'=>v=(cntP (intP (if a<0 then -(n2:Int) else n2))).av/\σ'=σ) a0 σ:=by
  intro a0 hf
  rw [hG]
  by_cases h:a<0
  ·rw [if_pos h,show -(n2:Int)=0-n2 by omega]
   have k1:=kI (0-n2) (by omega)
   have k2:=counted_ok (intP (0-n2))
   generalize intP (0-n2)=D at *
   generalize (cntP D).av=V at *
   simp (disch:=first|assumption|omega|(simp only [List.length_append,List.length_cons,List.length_nil];omega)) only [go_sem,reduceCtorEq,Nat.reduceEqDiff,Nat.reduceAdd,Nat.reduceSub,Nat.reduceMul,Nat.reduceLeDiff,Int.reduceLT,Int.reduceLE,Int.reduceEq,↓reduceIte,Int.reduceNeg,Int.reduceAdd,Int.reduceSub,Int.reduceMul,true_imp_iff,forall_const,Nat.mul_one,Int.reduceToNat,Nat.reducePow,Int.reducePow,Bool.true_and,Bool.false_and,Bool.and_false,hf,h]
   refine k1.use ?_
   simp (disch:=first|assumption|omega|(simp only [List.length_append,List.length_cons,List.length_nil];omega)) only [go_sem,reduceCtorEq,Nat.reduceEqDiff,Nat.reduceAdd,Nat.reduceSub,Nat.reduceMul,Nat.reduceLeDiff,Int.reduceLT,Int.reduceLE,Int.reduceEq,↓reduceIte,Int.reduceNeg,Int.reduceAdd,Int.reduceSub,Int.reduceMul,true_imp_iff,forall_const,Nat.mul_one,Int.reduceToNat,Nat.reducePow,Int.reducePow,Bool.true_and,Bool.false_and,Bool.and_false]
   refine k2.use ?_
   simp (disch:=first|assumption|omega|(simp only [List.length_append,List.length_cons,List.length_nil];omega)) only [go_sem,reduceCtorEq,Nat.reduceEqDiff,Nat.reduceAdd,Nat.reduceSub,Nat.reduceMul,Nat.reduceLeDiff,Int.reduceLT,Int.reduceLE,Int.reduceEq,↓reduceIte,Int.reduceNeg,Int.reduceAdd,Int.reduceSub,Int.reduceMul,true_imp_iff,forall_const,Nat.mul_one,Int.reduceToNat,Nat.reducePow,Int.reducePow,Bool.true_and,Bool.false_and,Bool.and_false]
   exact retC_by (by repeat' (first|exact Drop.refl _|with_reducible refine Drop.off ?_ (by assumption))) (.refl _) ⟨rfl,rfl⟩
  ·rw [if_neg h]
   have k1:=kI n2 (by omega)
   have k2:=counted_ok (intP n2)
   generalize intP n2=D at *
   generalize (cntP D).av=V at *
   simp (disch:=first|assumption|omega|(simp only [List.length_append,List.length_cons,List.length_nil];omega)) only [go_sem,reduceCtorEq,Nat.reduceEqDiff,Nat.reduceAdd,Nat.reduceSub,Nat.reduceMul,Nat.reduceLeDiff,Int.reduceLT,Int.reduceLE,Int.reduceEq,↓reduceIte,Int.reduceNeg,Int.reduceAdd,Int.reduceSub,Int.reduceMul,true_imp_iff,forall_const,Nat.mul_one,Int.reduceToNat,Nat.reducePow,Int.reducePow,Bool.true_and,Bool.false_and,Bool.and_false,hf,h]
   refine k1.use ?_
   simp (disch:=first|assumption|omega|(simp only [List.length_append,List.length_cons,List.length_nil];omega)) only [go_sem,reduceCtorEq,Nat.reduceEqDiff,Nat.reduceAdd,Nat.reduceSub,Nat.reduceMul,Nat.reduceLeDiff,Int.reduceLT,Int.reduceLE,Int.reduceEq,↓reduceIte,Int.reduceNeg,Int.reduceAdd,Int.reduceSub,Int.reduceMul,true_imp_iff,forall_const,Nat.mul_one,Int.reduceToNat,Nat.reducePow,Int.reducePow,Bool.true_and,Bool.false_and,Bool.and_false]
   refine k2.use ?_
   simp (disch:=first|assumption|omega|(simp only [List.length_append,List.length_cons,List.length_nil];omega)) only [go_sem,reduceCtorEq,Nat.reduceEqDiff,Nat.reduceAdd,Nat.reduceSub,Nat.reduceMul,Nat.reduceLeDiff,Int.reduceLT,Int.reduceLE,Int.reduceEq,↓reduceIte,Int.reduceNeg,Int.reduceAdd,Int.reduceSub,Int.reduceMul,true_imp_iff,forall_const,Nat.mul_one,Int.reduceToNat,Nat.reducePow,Int.reducePow,Bool.true_and,Bool.false_and,Bool.and_false]
   exact retC_by (by repeat' (first|exact Drop.refl _|with_reducible refine Drop.off ?_ (by assumption))) (.refl _) ⟨rfl,rfl⟩
 obtain ⟨H,hH⟩:∃ H,H=ACode.wp Tryz.prog c34_17:=⟨_,rfl⟩
 generalize (cntP (intP (if a<0 then -(n2:Int) else n2))).av=V at *
 have g1:∀ (a0:AFr),(a0 0 = .int .i64 a/\a0 1 = .int .i64 odd/\a0 5 = .int .i64 n1)->H (RetQ [.t 4] fun v σ'=>v=V/\σ'=σ) a0 σ:=by
  intro a0 hf
  rw [hH]
  have t1:((n1:Nat):Int).tmod 2=((n1 % 2:Nat):Int):=rfl
  by_cases h:n1 % 2=odd
  ·rw [if_pos h] at h2
   have h':((n1 % 2:Nat):Int)=odd:=by omega
   simp (disch:=first|assumption|omega|(simp only [List.length_append,List.length_cons,List.length_nil];omega)) only [go_sem,reduceCtorEq,Nat.reduceEqDiff,Nat.reduceAdd,Nat.reduceSub,Nat.reduceMul,Nat.reduceLeDiff,Int.reduceLT,Int.reduceLE,Int.reduceEq,↓reduceIte,Int.reduceNeg,Int.reduceAdd,Int.reduceSub,Int.reduceMul,true_imp_iff,forall_const,Nat.mul_one,Int.reduceToNat,Nat.reducePow,Int.reducePow,Bool.true_and,Bool.false_and,Bool.and_false,hf,t1,h',←hG]
   refine g2 _ ?_
   rw [<-h2]
   simp (disch:=first|assumption|omega|(simp only [List.length_append,List.length_cons,List.length_nil];omega)) only [go_sem,reduceCtorEq,Nat.reduceEqDiff,Nat.reduceAdd,Nat.reduceSub,Nat.reduceMul,Nat.reduceLeDiff,Int.reduceLT,Int.reduceLE,Int.reduceEq,↓reduceIte,Int.reduceNeg,Int.reduceAdd,Int.reduceSub,Int.reduceMul,true_imp_iff,forall_const,Nat.mul_one,Int.reduceToNat,Nat.reducePow,Int.reducePow,Bool.true_and,Bool.false_and,Bool.and_false,hf]
  ·rw [if_neg h] at h2
   have h':¬ ((n1 % 2:Nat):Int)=odd:=by omega
   have e:(n1:Int)+1=n2:=by omega
   simp (disch:=first|assumption|omega|(simp only [List.length_append,List.length_cons,List.length_nil];omega)) only [go_sem,reduceCtorEq,Nat.reduceEqDiff,Nat.reduceAdd,Nat.reduceSub,Nat.reduceMul,Nat.reduceLeDiff,Int.reduceLT,Int.reduceLE,Int.reduceEq,↓reduceIte,Int.reduceNeg,Int.reduceAdd,Int.reduceSub,Int.reduceMul,true_imp_iff,forall_const,Nat.mul_one,Int.reduceToNat,Nat.reducePow,Int.reducePow,Bool.true_and,Bool.false_and,Bool.and_false,hf,t1,h',e,←hG]
   refine g2 _ ?_
   simp (disch:=first|assumption|omega|(simp only [List.length_append,List.length_cons,List.length_nil];omega)) only [go_sem,reduceCtorEq,Nat.reduceEqDiff,Nat.reduceAdd,Nat.reduceSub,Nat.reduceMul,Nat.reduceLeDiff,Int.reduceLT,Int.reduceLE,Int.reduceEq,↓reduceIte,Int.reduceNeg,Int.reduceAdd,Int.reduceSub,Int.reduceMul,true_imp_iff,forall_const,Nat.mul_one,Int.reduceToNat,Nat.reducePow,Int.reducePow,Bool.true_and,Bool.false_and,Bool.and_false,hf]
 simp (disch:=first|assumption|omega|(simp only [List.length_append,List.length_cons,List.length_nil];omega)) only [go_sem,reduceCtorEq,Nat.reduceEqDiff,Nat.reduceAdd,Nat.reduceSub,Nat.reduceMul,Nat.reduceLeDiff,Int.reduceLT,Int.reduceLE,Int.reduceEq,↓reduceIte,Int.reduceNeg,Int.reduceAdd,Int.reduceSub,Int.reduceMul,true_imp_iff,forall_const,Nat.mul_one,Int.reduceToNat,Nat.reducePow,Int.reducePow,Bool.true_and,Bool.false_and,Bool.and_false,←hH]
 refine hA.use ?_
 simp (disch:=first|assumption|omega|(simp only [List.length_append,List.length_cons,List.length_nil];omega)) only [go_sem,reduceCtorEq,Nat.reduceEqDiff,Nat.reduceAdd,Nat.reduceSub,Nat.reduceMul,Nat.reduceLeDiff,Int.reduceLT,Int.reduceLE,Int.reduceEq,↓reduceIte,Int.reduceNeg,Int.reduceAdd,Int.reduceSub,Int.reduceMul,true_imp_iff,forall_const,Nat.mul_one,Int.reduceToNat,Nat.reducePow,Int.reducePow,Bool.true_and,Bool.false_and,Bool.and_false,←hH]
 refine hW.use ?_
 simp (disch:=first|assumption|omega|(simp only [List.length_append,List.length_cons,List.length_nil];omega)) only [go_sem,reduceCtorEq,Nat.reduceEqDiff,Nat.reduceAdd,Nat.reduceSub,Nat.reduceMul,Nat.reduceLeDiff,Int.reduceLT,Int.reduceLE,Int.reduceEq,↓reduceIte,Int.reduceNeg,Int.reduceAdd,Int.reduceSub,Int.reduceMul,true_imp_iff,forall_const,Nat.mul_one,Int.reduceToNat,Nat.reducePow,Int.reducePow,Bool.true_and,Bool.false_and,Bool.and_false,←hH]
 refine hI.use ?_
 by_cases h:A % 10000=0
 ·rw [if_pos h] at h1
  rw [decide_eq_true h]
  simp (disch:=first|assumption|omega|(simp only [List.length_append,List.length_cons,List.length_nil];omega)) only [go_sem,reduceCtorEq,Nat.reduceEqDiff,Nat.reduceAdd,Nat.reduceSub,Nat.reduceMul,Nat.reduceLeDiff,Int.reduceLT,Int.reduceLE,Int.reduceEq,↓reduceIte,Int.reduceNeg,Int.reduceAdd,Int.reduceSub,Int.reduceMul,true_imp_iff,forall_const,Nat.mul_one,Int.reduceToNat,Nat.reducePow,Int.reducePow,Bool.true_and,Bool.false_and,Bool.and_false,←hH]
  refine g1 _ ?_
  rw [<-h1]
  simp (disch:=first|assumption|omega|(simp only [List.length_append,List.length_cons,List.length_nil];omega)) only [go_sem,reduceCtorEq,Nat.reduceEqDiff,Nat.reduceAdd,Nat.reduceSub,Nat.reduceMul,Nat.reduceLeDiff,Int.reduceLT,Int.reduceLE,Int.reduceEq,↓reduceIte,Int.reduceNeg,Int.reduceAdd,Int.reduceSub,Int.reduceMul,true_imp_iff,forall_const,Nat.mul_one,Int.reduceToNat,Nat.reducePow,Int.reducePow,Bool.true_and,Bool.false_and,Bool.and_false]
 ·rw [if_neg h] at h1
  rw [decide_eq_false h]
  have e:(n0:Int)+1=n1:=by omega
  simp (disch:=first|assumption|omega|(simp only [List.length_append,List.length_cons,List.length_nil];omega)) only [go_sem,reduceCtorEq,Nat.reduceEqDiff,Nat.reduceAdd,Nat.reduceSub,Nat.reduceMul,Nat.reduceLeDiff,Int.reduceLT,Int.reduceLE,Int.reduceEq,↓reduceIte,Int.reduceNeg,Int.reduceAdd,Int.reduceSub,Int.reduceMul,true_imp_iff,forall_const,Nat.mul_one,Int.reduceToNat,Nat.reducePow,Int.reducePow,Bool.true_and,Bool.false_and,Bool.and_false,e,←hH]
  refine g1 _ ?_
  simp (disch:=first|assumption|omega|(simp only [List.length_append,List.length_cons,List.length_nil];omega)) only [go_sem,reduceCtorEq,Nat.reduceEqDiff,Nat.reduceAdd,Nat.reduceSub,Nat.reduceMul,Nat.reduceLeDiff,Int.reduceLT,Int.reduceLE,Int.reduceEq,↓reduceIte,Int.reduceNeg,Int.reduceAdd,Int.reduceSub,Int.reduceMul,true_imp_iff,forall_const,Nat.mul_one,Int.reduceToNat,Nat.reducePow,Int.reducePow,Bool.true_and,Bool.false_and,Bool.and_false]
end Go.A
namespace Go.A
open Go.Proofs
structure Ref where
 row:Int
 col:Int
 absRow:Bool
 absCol:Bool
 deriving DecidableEq,Inhabited
end Go.A
namespace Go.A
open Go.Proofs Go.Lib
inductive Step where
 | bad (k:Nat)
 | blank
 | tok (kind:Int) (text:List UInt8) (n:Nat)
 deriving DecidableEq
structure Tok where
 kind:Int
 text:List UInt8
 at':Nat
 col:Nat
 deriving DecidableEq
def sgF:Nat->List UInt8->Option Nat
 | 0,_=>none
 | k+1,r=>if r = [] then some 0 else if decodeL r=(65533,1) then none else (sgF k (r.drop (decodeL r).2)).map (· + 1)
end Go.A
namespace Go.A
open Go.Proofs Go.Lib
def accTab:List Int:=(List.range 16).flatMap fun i => [(accLo i:Int),(accHi i:Int)]
def U8 (σ:ASt):Prop:=σ 3=some (.fix (firstTab.map (AV.int .u8)))/\σ 4=some (.fix (accTab.map (AV.int .u8)))
theorem U8.of_eq {σ σ':ASt} (h:U8 σ) (h1:σ' 3=σ 3) (h2:σ' 4=σ 4):U8 σ':=⟨h1.trans h.1,h2.trans h.2⟩
theorem U8.set {σ:ASt} {b:Nat} {r:Option Role} (h:U8 σ) (hb:σ b=none):U8 (σ.set b r):=by
 refine h.of_eq (ASt.set_ne ?_) (ASt.set_ne ?_)<;>rintro rfl
 ·rw [h.1] at hb;cases hb
 ·rw [h.2] at hb;cases hb
theorem fix_ints {σ:ASt} {w:World} (hs:Sim σ w) {b:Nat} {k:IntKind} {zs:List Int} (h:σ b=some (.fix (zs.map (AV.int k)))):∀ j z,zs[j]? = some z->w.cell? ⟨b,j,none⟩=some (.int k z):=by
 intro j z hj
 obtain ⟨vs,h4,h5⟩:=(hs b _ h).1.vals
 have h6:=reps_ints h4
 subst h6
 have:=h5 j (Value.int k z) (by simp [hj])
 simpa using this
theorem u8_tabs {σ:ASt} {w:World} (hs:Sim σ w) (h:U8 σ):Utf8Tabs 3 4 w:=by
 refine ⟨fun c hc=>fix_ints hs h.1 c _ (by simp [firstTab,hc]),fun i hi=>?_⟩
 have key:∀ i,i<16->accTab[2*i]? = some (accLo i:Int)/\accTab[2*i+1]? = some (accHi i:Int):=by decide
 exact ⟨fix_ints hs h.2 _ _ (key i hi).1,fix_ints hs h.2 _ _ (key i hi).2⟩
theorem ACalls.of_below {P:Program} {σ:ASt} {f:FuncId} {args:List AV} {r:AV} {u:Value} (h:∀ w vs,Sim σ w->Reps σ w args vs->Calls P f ⟨vs⟩ w fun e w'=>e = .returned u/\RowKit.Below w.heap.size w w') (hr:∀ w,Rep σ w r u):ACalls P f args σ fun v σ'=>v=r/\σ'=σ:=
 ACalls.of_ext (fun w vs hs ha=>(h w vs hs ha).mono fun e w' ⟨he,hb⟩=>⟨he,Ext.of_below hb⟩) hr
theorem dec_ok {σ:ASt} (h:U8 σ) {l:List UInt8} (h0:l ≠ []):ACalls Tryz.prog 92 [.str l] σ fun v σ'=>v = .tuple [.int .i32 (decodeL l).1,.int .i64 (decodeL l).2]/\σ'=σ:=by
 refine ACalls.of_below (u := .tuple #[.int .i32 (decodeL l).1,.int .i64 (decodeL l).2]) (fun w vs hs ha=>?_) fun w => .tuple (.cons (.int _ _) (.cons (.int _ _) .nil))
 cases ha with
 | cons h1 h2=>
 cases h1;cases h2
 have:=Tryz.utf8_DecodeRuneInString ⟨⟨l⟩⟩ w (u8_tabs hs h)
 have e:decodeGo ⟨⟨l⟩⟩=decodeL l:=by
  unfold decodeGo decodeL
  rw [if_neg (by cases l;exact absurd rfl h0;simp [ByteArray.size])]
 rw [e] at this
 exact this
end Go.A
namespace Go.A
open Go.Proofs Go.Lib
theorem sgF_step {k:Nat} {r:List UInt8} (h0:r ≠ []) (hv:decodeL r≠(65533,1)):sgF (k+1) r=(sgF k (r.drop (decodeL r).2)).map (· + 1):=by
 rw [sgF,if_neg h0,if_neg hv]
theorem sgT_fuel:∀ (k m:Nat) (r:List UInt8),r.length<k->r.length<m->sgF k r=sgF m r
 | 0,_,r,h,_=>absurd h (Nat.not_lt_zero _)
 | _,0,r,_,h=>absurd h (Nat.not_lt_zero _)
 | k+1,m+1,r,h1,h2=>by
   rw [sgF,sgF]
   by_cases h0:r = []
   ·rw [if_pos h0,if_pos h0]
   ·rw [if_neg h0,if_neg h0]
    split
    ·rfl
    ·have hw:=decodeL_width r
     have hl:=List.length_pos_iff.2 h0
     rw [sgT_fuel k m _ (by rw [List.length_drop];omega) (by rw [List.length_drop];omega)]
def sgT (r:List UInt8):Option Nat:=sgF (r.length+1) r
theorem sgT_nil:sgT []=some 0:=rfl
theorem sgT_bad {r:List UInt8} (h0:r ≠ []) (hv:decodeL r=(65533,1)):sgT r=none:=by
 unfold sgT
 rw [sgF,if_neg h0,if_pos hv]
theorem sgT_step {r:List UInt8} (h0:r ≠ []) (hv:decodeL r≠(65533,1)):sgT r=(sgT (r.drop (decodeL r).2)).map (· + 1):=by
 unfold sgT
 rw [sgF_step h0 hv]
 have hw:=decodeL_width r
 have hl:=List.length_pos_iff.2 h0
 rw [sgT_fuel r.length ((r.drop (decodeL r).2).length+1) _ (by rw [List.length_drop];omega) (by omega)]
def sgAV (s:List UInt8):AV:=match sgT s with
 | some n => .tuple [.int .i64 n,.bool true]
 | none => .tuple [.int .i64 0,.bool false]
end Go.A
namespace Go.A
open Go.Proofs Go.Lib
set_option maxHeartbeats 1000000 in
theorem signs_ok {σ:ASt} (h:U8 σ) (s:List UInt8) (hs:s.length<=4611686018427387904):ACalls Tryz.prog 73 [.str s] σ fun v σ'=>v=sgAV s/\σ'=σ:=by
 refine a73 (by simp) ?_
 obtain ⟨R,hR⟩:∃ R,sgT s=R:=⟨_,rfl⟩
 unfold sgAV
 rw [hR]
 obtain ⟨F,hF⟩:∃ F,F=ACode.wp Tryz.prog c73_26:=⟨_,rfl⟩
 simp (disch:=first|assumption|omega|(simp only [List.length_append,List.length_cons,List.length_nil];omega)) only [go_sem,reduceCtorEq,Nat.reduceEqDiff,Nat.reduceAdd,Nat.reduceSub,Nat.reduceMul,Nat.reduceLeDiff,Int.reduceLT,Int.reduceLE,Int.reduceEq,↓reduceIte,Int.reduceNeg,Int.reduceAdd,Int.reduceSub,Int.reduceMul,true_imp_iff,forall_const,Nat.mul_one,Int.reduceToNat,Nat.reducePow,Int.reducePow,Bool.true_and,Bool.false_and,Bool.and_false,←hF]
 refine fun b hb=>?_
 simp (disch:=first|assumption|omega|(simp only [List.length_append,List.length_cons,List.length_nil];omega)) only [go_sem,reduceCtorEq,Nat.reduceEqDiff,Nat.reduceAdd,Nat.reduceSub,Nat.reduceMul,Nat.reduceLeDiff,Int.reduceLT,Int.reduceLE,Int.reduceEq,↓reduceIte,Int.reduceNeg,Int.reduceAdd,Int.reduceSub,Int.reduceMul,true_imp_iff,forall_const,Nat.mul_one,Int.reduceToNat,Nat.reducePow,Int.reducePow,Bool.true_and,Bool.false_and,Bool.and_false,←hF]
 refine wp_loop_by (fun (p:Nat) a σ'=>p<=s.length/\(∃ n:Nat,R=(sgT (s.drop p)).map (· + n)/\n<=p/\a 4 = .int .i64 n)/\(a 0 = .str s/\a 10 = .ptr b 0)/\σ'=σ.set b (some (.iter s p))) (fun p=>s.length-p) 0 (Dr.now ⟨Nat.zero_le _,⟨0,?_,Nat.le_refl _,?_⟩,?_,rfl⟩) ?_
 ·rw [<-hR,List.drop_zero];cases sgT s<;>rfl
 ·simp (disch:=first|assumption|omega|(simp only [List.length_append,List.length_cons,List.length_nil];omega)) only [go_sem,reduceCtorEq,Nat.reduceEqDiff,Nat.reduceAdd,Nat.reduceSub,Nat.reduceMul,Nat.reduceLeDiff,Int.reduceLT,Int.reduceLE,Int.reduceEq,↓reduceIte,Int.reduceNeg,Int.reduceAdd,Int.reduceSub,Int.reduceMul,true_imp_iff,forall_const,Nat.mul_one,Int.reduceToNat,Nat.reducePow,Int.reducePow,Bool.true_and,Bool.false_and,Bool.and_false]
 ·simp (disch:=first|assumption|omega|(simp only [List.length_append,List.length_cons,List.length_nil];omega)) only [go_sem,reduceCtorEq,Nat.reduceEqDiff,Nat.reduceAdd,Nat.reduceSub,Nat.reduceMul,Nat.reduceLeDiff,Int.reduceLT,Int.reduceLE,Int.reduceEq,↓reduceIte,Int.reduceNeg,Int.reduceAdd,Int.reduceSub,Int.reduceMul,true_imp_iff,forall_const,Nat.mul_one,Int.reduceToNat,Nat.reducePow,Int.reducePow,Bool.true_and,Bool.false_and,Bool.and_false]
 rintro p a σ1 ⟨hp,⟨n,hm,hn,h4⟩,hf,rfl⟩
 by_cases hlt:p<s.length
 ·have hlt':(p:Int)<s.length:=by omega
  have hne:s.drop p ≠ []:=by
   intro e
   have:=congrArg List.length e
   rw [List.length_drop] at this
   simp at this
   omega
  obtain ⟨⟨r,w⟩,hD⟩:∃ D,decodeL (s.drop p)=D:=⟨_,rfl⟩
  have hD2:Utf8.decode ⟨⟨s⟩⟩ p=(r,w):=by rw [<-hD];exact (decodeL_drop ⟨⟨s⟩⟩ p).symm
  have hw:=decodeL_width (s.drop p)
  have hwle:=decodeL_le (s.drop p) hne
  have hrb:=decodeL_rune (s.drop p)
  rw [List.length_drop] at hwle
  rw [hD] at hw hwle hrb
  dsimp only at hw hwle hrb
  by_cases hr:r=65533
  ·have hr':(r:Int)=65533:=by omega
   have hdc:=dec_ok (h.set hb (r:=some (.iter s (p+w)))) hne
   rw [hD] at hdc
   by_cases hw1:w=1
   ·have hbad:=sgT_bad hne (by rw [hD,hr,hw1])
    rw [hbad] at hm
    simp only [Option.map_none] at hm
    subst hm
    subst hw1
    have e1:((1:Nat):Int)=1:=rfl
    rw [e1] at hdc
    simp (disch:=first|assumption|omega|(simp only [List.length_append,List.length_cons,List.length_nil];omega)) only [go_sem,reduceCtorEq,Nat.reduceEqDiff,Nat.reduceAdd,Nat.reduceSub,Nat.reduceMul,Nat.reduceLeDiff,Int.reduceLT,Int.reduceLE,Int.reduceEq,↓reduceIte,Int.reduceNeg,Int.reduceAdd,Int.reduceSub,Int.reduceMul,true_imp_iff,forall_const,Nat.mul_one,Int.reduceToNat,Nat.reducePow,Int.reducePow,Bool.true_and,Bool.false_and,Bool.and_false,hf,h4,←hF]
    refine nxt_more hlt ?_
    rw [hD2]
    simp (disch:=first|assumption|omega|(simp only [List.length_append,List.length_cons,List.length_nil];omega)) only [go_sem,reduceCtorEq,Nat.reduceEqDiff,Nat.reduceAdd,Nat.reduceSub,Nat.reduceMul,Nat.reduceLeDiff,Int.reduceLT,Int.reduceLE,Int.reduceEq,↓reduceIte,Int.reduceNeg,Int.reduceAdd,Int.reduceSub,Int.reduceMul,true_imp_iff,forall_const,Nat.mul_one,Int.reduceToNat,Nat.reducePow,Int.reducePow,Bool.true_and,Bool.false_and,Bool.and_false,hf,h4,hlt,hlt',hr',List.take_length,←hF]
    refine hdc.mono ?_
    rintro v σ' ⟨rfl,rfl⟩
    simp (disch:=first|assumption|omega|(simp only [List.length_append,List.length_cons,List.length_nil];omega)) only [go_sem,reduceCtorEq,Nat.reduceEqDiff,Nat.reduceAdd,Nat.reduceSub,Nat.reduceMul,Nat.reduceLeDiff,Int.reduceLT,Int.reduceLE,Int.reduceEq,↓reduceIte,Int.reduceNeg,Int.reduceAdd,Int.reduceSub,Int.reduceMul,true_imp_iff,forall_const,Nat.mul_one,Int.reduceToNat,Nat.reducePow,Int.reducePow,Bool.true_and,Bool.false_and,Bool.and_false,hf,ASt.set_set]
    exact retC_by (by repeat' (first|exact Drop.refl _|with_reducible refine Drop.off ?_ (by assumption))) (.refl _) ⟨rfl,rfl⟩
   ·have hw1':¬ (w:Int)=1:=by omega
    have hgo:=sgT_step hne (by rw [hD];intro h;injection h with _ h;exact hw1 h)
    rw [hD] at hgo
    dsimp only at hgo
    rw [hgo,List.drop_drop,Option.map_map] at hm
    simp (disch:=first|assumption|omega|(simp only [List.length_append,List.length_cons,List.length_nil];omega)) only [go_sem,reduceCtorEq,Nat.reduceEqDiff,Nat.reduceAdd,Nat.reduceSub,Nat.reduceMul,Nat.reduceLeDiff,Int.reduceLT,Int.reduceLE,Int.reduceEq,↓reduceIte,Int.reduceNeg,Int.reduceAdd,Int.reduceSub,Int.reduceMul,true_imp_iff,forall_const,Nat.mul_one,Int.reduceToNat,Nat.reducePow,Int.reducePow,Bool.true_and,Bool.false_and,Bool.and_false,hf,h4,←hF]
    refine nxt_more hlt ?_
    rw [hD2]
    simp (disch:=first|assumption|omega|(simp only [List.length_append,List.length_cons,List.length_nil];omega)) only [go_sem,reduceCtorEq,Nat.reduceEqDiff,Nat.reduceAdd,Nat.reduceSub,Nat.reduceMul,Nat.reduceLeDiff,Int.reduceLT,Int.reduceLE,Int.reduceEq,↓reduceIte,Int.reduceNeg,Int.reduceAdd,Int.reduceSub,Int.reduceMul,true_imp_iff,forall_const,Nat.mul_one,Int.reduceToNat,Nat.reducePow,Int.reducePow,Bool.true_and,Bool.false_and,Bool.and_false,hf,h4,hlt,hlt',hr',List.take_length,←hF]
    refine hdc.mono ?_
    rintro v σ' ⟨rfl,rfl⟩
    simp (disch:=first|assumption|omega|(simp only [List.length_append,List.length_cons,List.length_nil];omega)) only [go_sem,reduceCtorEq,Nat.reduceEqDiff,Nat.reduceAdd,Nat.reduceSub,Nat.reduceMul,Nat.reduceLeDiff,Int.reduceLT,Int.reduceLE,Int.reduceEq,↓reduceIte,Int.reduceNeg,Int.reduceAdd,Int.reduceSub,Int.reduceMul,true_imp_iff,forall_const,Nat.mul_one,Int.reduceToNat,Nat.reducePow,Int.reducePow,Bool.true_and,Bool.false_and,Bool.and_false,hf,h4,hw1',ASt.set_set]
    refine ⟨p+w,by dsimp only;omega,Dr.now ⟨by omega,⟨n+1,?_,by omega,?_⟩,?_,rfl⟩⟩
    ·rw [hm]
     congr 1
     funext x
     simp only [Function.comp]
     omega
    ·simp (disch:=first|assumption|omega|(simp only [List.length_append,List.length_cons,List.length_nil];omega)) only [go_sem,reduceCtorEq,Nat.reduceEqDiff,Nat.reduceAdd,Nat.reduceSub,Nat.reduceMul,Nat.reduceLeDiff,Int.reduceLT,Int.reduceLE,Int.reduceEq,↓reduceIte,Int.reduceNeg,Int.reduceAdd,Int.reduceSub,Int.reduceMul,true_imp_iff,forall_const,Nat.mul_one,Int.reduceToNat,Nat.reducePow,Int.reducePow,Bool.true_and,Bool.false_and,Bool.and_false,hf,h4]
    ·simp (disch:=first|assumption|omega|(simp only [List.length_append,List.length_cons,List.length_nil];omega)) only [go_sem,reduceCtorEq,Nat.reduceEqDiff,Nat.reduceAdd,Nat.reduceSub,Nat.reduceMul,Nat.reduceLeDiff,Int.reduceLT,Int.reduceLE,Int.reduceEq,↓reduceIte,Int.reduceNeg,Int.reduceAdd,Int.reduceSub,Int.reduceMul,true_imp_iff,forall_const,Nat.mul_one,Int.reduceToNat,Nat.reducePow,Int.reducePow,Bool.true_and,Bool.false_and,Bool.and_false,hf,h4]
  ·have hr':¬ (r:Int)=65533:=by omega
   have hgo:=sgT_step hne (by rw [hD];intro h;injection h with h _;exact hr h)
   rw [hD] at hgo
   dsimp only at hgo
   rw [hgo,List.drop_drop,Option.map_map] at hm
   simp (disch:=first|assumption|omega|(simp only [List.length_append,List.length_cons,List.length_nil];omega)) only [go_sem,reduceCtorEq,Nat.reduceEqDiff,Nat.reduceAdd,Nat.reduceSub,Nat.reduceMul,Nat.reduceLeDiff,Int.reduceLT,Int.reduceLE,Int.reduceEq,↓reduceIte,Int.reduceNeg,Int.reduceAdd,Int.reduceSub,Int.reduceMul,true_imp_iff,forall_const,Nat.mul_one,Int.reduceToNat,Nat.reducePow,Int.reducePow,Bool.true_and,Bool.false_and,Bool.and_false,hf,h4,←hF]
   refine nxt_more hlt ?_
   rw [hD2]
   simp (disch:=first|assumption|omega|(simp only [List.length_append,List.length_cons,List.length_nil];omega)) only [go_sem,reduceCtorEq,Nat.reduceEqDiff,Nat.reduceAdd,Nat.reduceSub,Nat.reduceMul,Nat.reduceLeDiff,Int.reduceLT,Int.reduceLE,Int.reduceEq,↓reduceIte,Int.reduceNeg,Int.reduceAdd,Int.reduceSub,Int.reduceMul,true_imp_iff,forall_const,Nat.mul_one,Int.reduceToNat,Nat.reducePow,Int.reducePow,Bool.true_and,Bool.false_and,Bool.and_false,hf,h4,hlt,hlt',hr',ASt.set_set,←hF]
   refine ⟨p+w,by dsimp only;omega,Dr.now ⟨by omega,⟨n+1,?_,by omega,?_⟩,?_,rfl⟩⟩
   ·rw [hm]
    congr 1
    funext x
    simp only [Function.comp]
    omega
   ·simp (disch:=first|assumption|omega|(simp only [List.length_append,List.length_cons,List.length_nil];omega)) only [go_sem,reduceCtorEq,Nat.reduceEqDiff,Nat.reduceAdd,Nat.reduceSub,Nat.reduceMul,Nat.reduceLeDiff,Int.reduceLT,Int.reduceLE,Int.reduceEq,↓reduceIte,Int.reduceNeg,Int.reduceAdd,Int.reduceSub,Int.reduceMul,true_imp_iff,forall_const,Nat.mul_one,Int.reduceToNat,Nat.reducePow,Int.reducePow,Bool.true_and,Bool.false_and,Bool.and_false,hf,h4]
   ·simp (disch:=first|assumption|omega|(simp only [List.length_append,List.length_cons,List.length_nil];omega)) only [go_sem,reduceCtorEq,Nat.reduceEqDiff,Nat.reduceAdd,Nat.reduceSub,Nat.reduceMul,Nat.reduceLeDiff,Int.reduceLT,Int.reduceLE,Int.reduceEq,↓reduceIte,Int.reduceNeg,Int.reduceAdd,Int.reduceSub,Int.reduceMul,true_imp_iff,forall_const,Nat.mul_one,Int.reduceToNat,Nat.reducePow,Int.reducePow,Bool.true_and,Bool.false_and,Bool.and_false,hf,h4]
 ·have hlt':¬ (p:Int)<s.length:=by omega
  rw [List.drop_eq_nil_of_le (by omega),sgT_nil] at hm
  simp only [Option.map_some,Nat.zero_add] at hm
  subst hm
  simp (disch:=first|assumption|omega|(simp only [List.length_append,List.length_cons,List.length_nil];omega)) only [go_sem,reduceCtorEq,Nat.reduceEqDiff,Nat.reduceAdd,Nat.reduceSub,Nat.reduceMul,Nat.reduceLeDiff,Int.reduceLT,Int.reduceLE,Int.reduceEq,↓reduceIte,Int.reduceNeg,Int.reduceAdd,Int.reduceSub,Int.reduceMul,true_imp_iff,forall_const,Nat.mul_one,Int.reduceToNat,Nat.reducePow,Int.reducePow,Bool.true_and,Bool.false_and,Bool.and_false,hf,h4,←hF]
  refine nxt_over (by omega) ?_
  simp (disch:=first|assumption|omega|(simp only [List.length_append,List.length_cons,List.length_nil];omega)) only [go_sem,reduceCtorEq,Nat.reduceEqDiff,Nat.reduceAdd,Nat.reduceSub,Nat.reduceMul,Nat.reduceLeDiff,Int.reduceLT,Int.reduceLE,Int.reduceEq,↓reduceIte,Int.reduceNeg,Int.reduceAdd,Int.reduceSub,Int.reduceMul,true_imp_iff,forall_const,Nat.mul_one,Int.reduceToNat,Nat.reducePow,Int.reducePow,Bool.true_and,Bool.false_and,Bool.and_false,hf,h4,←hF]
  rw [hF]
  simp (disch:=first|assumption|omega|(simp only [List.length_append,List.length_cons,List.length_nil];omega)) only [go_sem,reduceCtorEq,Nat.reduceEqDiff,Nat.reduceAdd,Nat.reduceSub,Nat.reduceMul,Nat.reduceLeDiff,Int.reduceLT,Int.reduceLE,Int.reduceEq,↓reduceIte,Int.reduceNeg,Int.reduceAdd,Int.reduceSub,Int.reduceMul,true_imp_iff,forall_const,Nat.mul_one,Int.reduceToNat,Nat.reducePow,Int.reducePow,Bool.true_and,Bool.false_and,Bool.and_false,hf,h4]
  exact retC_by (by repeat' (first|exact Drop.refl _|with_reducible refine Drop.off ?_ (by assumption))) (.refl _) ⟨rfl,rfl⟩
theorem errors_ok:Pure Tryz.prog 74 [] (.sl .shr [.str [35,68,73,86,47,48,33],.str [35,78,85,77,33],.str [35,86,65,76,85,69,33],.str [35,82,69,70,33],.str [35,78,47,65],.str [35,78,65,77,69,63],.str [35,67,89,67,76,69,33]]):=by
 intro σ
 refine a74 (by simp) ?_
 simp (disch:=first|assumption|omega|(simp only [List.length_append,List.length_cons,List.length_nil];omega)) only [go_sem,reduceCtorEq,Nat.reduceEqDiff,Nat.reduceAdd,Nat.reduceSub,Nat.reduceMul,Nat.reduceLeDiff,Int.reduceLT,Int.reduceLE,Int.reduceEq,↓reduceIte,Int.reduceNeg,Int.reduceAdd,Int.reduceSub,Int.reduceMul,true_imp_iff,forall_const,Nat.mul_one,Int.reduceToNat,Nat.reducePow,Int.reducePow,Bool.true_and,Bool.false_and,Bool.and_false]
 exact retC_by (by repeat' (first|exact Drop.refl _|with_reducible refine Drop.off ?_ (by assumption))) (.sl _ _) ⟨rfl,rfl⟩
structure Pl where
 kind:Int
 n:Int
 s:List UInt8
def plAV (p:Pl):AV := .agg [.int .i64 p.kind,.int .i64 p.n,.str p.s]
def ofP (p:Pl):PV:=
 if p.kind=1 then (if p.n.natAbs<=999999999999999999 then .num p.n else .blank)
 else if p.kind=2 then (if (sgT p.s).isSome=true/\p.s.length<=2000 then .text p.s else .blank)
 else if p.kind=3 then .bool (decide (p.n=1))
 else if p.kind=4 then (if 1<=p.n/\p.n<=7 then .fail p.n else .blank)
 else .blank
theorem ofP_small (p:Pl):(ofP p).small:=by
 unfold ofP
 repeat' split
 all_goals first|trivial|(rename_i h;show p.s.length<=100000;omega)
set_option maxHeartbeats 1000000 in
theorem of_ok {σ:ASt} (h:U8 σ) (p:Pl) (hs:p.s.length<=4611686018427387904):ACalls Tryz.prog 37 [plAV p] σ fun v σ'=>v=(ofP p).av/\σ'=σ:=by
 obtain ⟨k,n,s⟩:=p
 dsimp only at hs
 unfold plAV ofP
 dsimp only
 refine a37 (by simp) ?_
 simp (disch:=first|assumption|omega|(simp only [List.length_append,List.length_cons,List.length_nil];omega)) only [go_sem,reduceCtorEq,Nat.reduceEqDiff,Nat.reduceAdd,Nat.reduceSub,Nat.reduceMul,Nat.reduceLeDiff,Int.reduceLT,Int.reduceLE,Int.reduceEq,↓reduceIte,Int.reduceNeg,Int.reduceAdd,Int.reduceSub,Int.reduceMul,true_imp_iff,forall_const,Nat.mul_one,Int.reduceToNat,Nat.reducePow,Int.reducePow,Bool.true_and,Bool.false_and,Bool.and_false]
 refine boxC_by rfl fun b hb=>?_
 have hE:=errors_ok
 by_cases k1:k=1
 ·rw [if_pos k1]
  simp (disch:=first|assumption|omega|(simp only [List.length_append,List.length_cons,List.length_nil];omega)) only [go_sem,reduceCtorEq,Nat.reduceEqDiff,Nat.reduceAdd,Nat.reduceSub,Nat.reduceMul,Nat.reduceLeDiff,Int.reduceLT,Int.reduceLE,Int.reduceEq,↓reduceIte,Int.reduceNeg,Int.reduceAdd,Int.reduceSub,Int.reduceMul,true_imp_iff,forall_const,Nat.mul_one,Int.reduceToNat,Nat.reducePow,Int.reducePow,Bool.true_and,Bool.false_and,Bool.and_false,k1]
  refine (dgood_ok n).use ?_
  by_cases hg:n.natAbs<=999999999999999999
  ·rw [if_pos hg]
   simp only [PV.av]
   simp (disch:=first|assumption|omega|(simp only [List.length_append,List.length_cons,List.length_nil];omega)) only [go_sem,reduceCtorEq,Nat.reduceEqDiff,Nat.reduceAdd,Nat.reduceSub,Nat.reduceMul,Nat.reduceLeDiff,Int.reduceLT,Int.reduceLE,Int.reduceEq,↓reduceIte,Int.reduceNeg,Int.reduceAdd,Int.reduceSub,Int.reduceMul,true_imp_iff,forall_const,Nat.mul_one,Int.reduceToNat,Nat.reducePow,Int.reducePow,Bool.true_and,Bool.false_and,Bool.and_false,hg]
   exact retC_by (Drop.set hb) (.refl _) ⟨rfl,rfl⟩
  ·rw [if_neg hg]
   simp only [PV.av]
   simp (disch:=first|assumption|omega|(simp only [List.length_append,List.length_cons,List.length_nil];omega)) only [go_sem,reduceCtorEq,Nat.reduceEqDiff,Nat.reduceAdd,Nat.reduceSub,Nat.reduceMul,Nat.reduceLeDiff,Int.reduceLT,Int.reduceLE,Int.reduceEq,↓reduceIte,Int.reduceNeg,Int.reduceAdd,Int.reduceSub,Int.reduceMul,true_imp_iff,forall_const,Nat.mul_one,Int.reduceToNat,Nat.reducePow,Int.reducePow,Bool.true_and,Bool.false_and,Bool.and_false,hg]
   exact retC_by (Drop.set hb) (.refl _) ⟨rfl,rfl⟩
 rw [if_neg k1]
 by_cases k2:k=2
 ·rw [if_pos k2]
  have hS2:=signs_ok (h.set hb (r:=some (.obj [.int .i64 2,.int .i64 n,.str s]))) s hs
  simp (disch:=first|assumption|omega|(simp only [List.length_append,List.length_cons,List.length_nil];omega)) only [go_sem,reduceCtorEq,Nat.reduceEqDiff,Nat.reduceAdd,Nat.reduceSub,Nat.reduceMul,Nat.reduceLeDiff,Int.reduceLT,Int.reduceLE,Int.reduceEq,↓reduceIte,Int.reduceNeg,Int.reduceAdd,Int.reduceSub,Int.reduceMul,true_imp_iff,forall_const,Nat.mul_one,Int.reduceToNat,Nat.reducePow,Int.reducePow,Bool.true_and,Bool.false_and,Bool.and_false,k1,k2]
  refine hS2.mono ?_
  rintro v σ' ⟨rfl,rfl⟩
  unfold sgAV
  cases sgT s with
  | none=>
    rw [if_neg (by simp)]
    simp only [PV.av]
    simp (disch:=first|assumption|omega|(simp only [List.length_append,List.length_cons,List.length_nil];omega)) only [go_sem,reduceCtorEq,Nat.reduceEqDiff,Nat.reduceAdd,Nat.reduceSub,Nat.reduceMul,Nat.reduceLeDiff,Int.reduceLT,Int.reduceLE,Int.reduceEq,↓reduceIte,Int.reduceNeg,Int.reduceAdd,Int.reduceSub,Int.reduceMul,true_imp_iff,forall_const,Nat.mul_one,Int.reduceToNat,Nat.reducePow,Int.reducePow,Bool.true_and,Bool.false_and,Bool.and_false]
    exact retC_by (Drop.set hb) (.refl _) ⟨rfl,rfl⟩
  | some m=>
    by_cases hl:s.length<=2000
    ·have hl':(s.length:Int)<=2000:=by omega
     rw [if_pos ⟨rfl,hl⟩]
     simp only [PV.av]
     simp (disch:=first|assumption|omega|(simp only [List.length_append,List.length_cons,List.length_nil];omega)) only [go_sem,reduceCtorEq,Nat.reduceEqDiff,Nat.reduceAdd,Nat.reduceSub,Nat.reduceMul,Nat.reduceLeDiff,Int.reduceLT,Int.reduceLE,Int.reduceEq,↓reduceIte,Int.reduceNeg,Int.reduceAdd,Int.reduceSub,Int.reduceMul,true_imp_iff,forall_const,Nat.mul_one,Int.reduceToNat,Nat.reducePow,Int.reducePow,Bool.true_and,Bool.false_and,Bool.and_false,hl']
     exact retC_by (Drop.set hb) (.refl _) ⟨rfl,rfl⟩
    ·have hl':¬ (s.length:Int)<=2000:=by omega
     rw [if_neg (fun h=>hl h.2)]
     simp only [PV.av]
     simp (disch:=first|assumption|omega|(simp only [List.length_append,List.length_cons,List.length_nil];omega)) only [go_sem,reduceCtorEq,Nat.reduceEqDiff,Nat.reduceAdd,Nat.reduceSub,Nat.reduceMul,Nat.reduceLeDiff,Int.reduceLT,Int.reduceLE,Int.reduceEq,↓reduceIte,Int.reduceNeg,Int.reduceAdd,Int.reduceSub,Int.reduceMul,true_imp_iff,forall_const,Nat.mul_one,Int.reduceToNat,Nat.reducePow,Int.reducePow,Bool.true_and,Bool.false_and,Bool.and_false,hl']
     exact retC_by (Drop.set hb) (.refl _) ⟨rfl,rfl⟩
 rw [if_neg k2]
 by_cases k3:k=3
 ·rw [if_pos k3]
  simp only [PV.av]
  simp (disch:=first|assumption|omega|(simp only [List.length_append,List.length_cons,List.length_nil];omega)) only [go_sem,reduceCtorEq,Nat.reduceEqDiff,Nat.reduceAdd,Nat.reduceSub,Nat.reduceMul,Nat.reduceLeDiff,Int.reduceLT,Int.reduceLE,Int.reduceEq,↓reduceIte,Int.reduceNeg,Int.reduceAdd,Int.reduceSub,Int.reduceMul,true_imp_iff,forall_const,Nat.mul_one,Int.reduceToNat,Nat.reducePow,Int.reducePow,Bool.true_and,Bool.false_and,Bool.and_false,k1,k2,k3]
  exact retC_by (Drop.set hb) (.refl _) ⟨rfl,rfl⟩
 rw [if_neg k3]
 by_cases k4:k=4
 ·rw [if_pos k4]
  by_cases g1:1<=n
  ·simp (disch:=first|assumption|omega|(simp only [List.length_append,List.length_cons,List.length_nil];omega)) only [go_sem,reduceCtorEq,Nat.reduceEqDiff,Nat.reduceAdd,Nat.reduceSub,Nat.reduceMul,Nat.reduceLeDiff,Int.reduceLT,Int.reduceLE,Int.reduceEq,↓reduceIte,Int.reduceNeg,Int.reduceAdd,Int.reduceSub,Int.reduceMul,true_imp_iff,forall_const,Nat.mul_one,Int.reduceToNat,Nat.reducePow,Int.reducePow,Bool.true_and,Bool.false_and,Bool.and_false,k1,k2,k3,k4,g1]
   refine hE.use ?_
   by_cases g2:n<=7
   ·rw [if_pos g2]
    simp only [PV.av]
    simp (disch:=first|assumption|omega|(simp only [List.length_append,List.length_cons,List.length_nil];omega)) only [go_sem,reduceCtorEq,Nat.reduceEqDiff,Nat.reduceAdd,Nat.reduceSub,Nat.reduceMul,Nat.reduceLeDiff,Int.reduceLT,Int.reduceLE,Int.reduceEq,↓reduceIte,Int.reduceNeg,Int.reduceAdd,Int.reduceSub,Int.reduceMul,true_imp_iff,forall_const,Nat.mul_one,Int.reduceToNat,Nat.reducePow,Int.reducePow,Bool.true_and,Bool.false_and,Bool.and_false,g2]
    exact retC_by (Drop.set hb) (.refl _) ⟨rfl,rfl⟩
   ·rw [if_neg g2]
    simp only [PV.av]
    simp (disch:=first|assumption|omega|(simp only [List.length_append,List.length_cons,List.length_nil];omega)) only [go_sem,reduceCtorEq,Nat.reduceEqDiff,Nat.reduceAdd,Nat.reduceSub,Nat.reduceMul,Nat.reduceLeDiff,Int.reduceLT,Int.reduceLE,Int.reduceEq,↓reduceIte,Int.reduceNeg,Int.reduceAdd,Int.reduceSub,Int.reduceMul,true_imp_iff,forall_const,Nat.mul_one,Int.reduceToNat,Nat.reducePow,Int.reducePow,Bool.true_and,Bool.false_and,Bool.and_false,g2]
    exact retC_by (Drop.set hb) (.refl _) ⟨rfl,rfl⟩
  ·rw [if_neg (fun h=>g1 h.1)]
   simp only [PV.av]
   simp (disch:=first|assumption|omega|(simp only [List.length_append,List.length_cons,List.length_nil];omega)) only [go_sem,reduceCtorEq,Nat.reduceEqDiff,Nat.reduceAdd,Nat.reduceSub,Nat.reduceMul,Nat.reduceLeDiff,Int.reduceLT,Int.reduceLE,Int.reduceEq,↓reduceIte,Int.reduceNeg,Int.reduceAdd,Int.reduceSub,Int.reduceMul,true_imp_iff,forall_const,Nat.mul_one,Int.reduceToNat,Nat.reducePow,Int.reducePow,Bool.true_and,Bool.false_and,Bool.and_false,k1,k2,k3,k4,g1]
   exact retC_by (Drop.set hb) (.refl _) ⟨rfl,rfl⟩
 ·rw [if_neg k4]
  simp only [PV.av]
  simp (disch:=first|assumption|omega|(simp only [List.length_append,List.length_cons,List.length_nil];omega)) only [go_sem,reduceCtorEq,Nat.reduceEqDiff,Nat.reduceAdd,Nat.reduceSub,Nat.reduceMul,Nat.reduceLeDiff,Int.reduceLT,Int.reduceLE,Int.reduceEq,↓reduceIte,Int.reduceNeg,Int.reduceAdd,Int.reduceSub,Int.reduceMul,true_imp_iff,forall_const,Nat.mul_one,Int.reduceToNat,Nat.reducePow,Int.reducePow,Bool.true_and,Bool.false_and,Bool.and_false,k1,k2,k3,k4]
  exact retC_by (Drop.set hb) (.refl _) ⟨rfl,rfl⟩
end Go.A
namespace Go.A
open Go.Proofs
/-! 38: tabular/tabularref15.Fail -/
def c38_3:ACode := .seq (.ops [ oe 2 (.alloc [(.int .i64 0),(.int .i64 0),(.str [])])]) (.seq (.ops [ oq 3 (.mv (.t 0)),oq 4 (.build [(.int .i64 0),(.int .i64 0),(.str [])] [(0,1,(.v (.int .i64 4))),(1,1,(.t 3))]),oz (.store 3 (.t 2) (.t 4))]) .ret)
@[go_sem] def c38_3_wp:=wp_of c38_3.eq_1
def c38:AFn:=⟨5,[.c 2 (some 3)],c38_3⟩
theorem c38_ok:compF Tryz.prog Tryz.f38=some c38:=by kernel_rfl
theorem a38 {args:List AV} {σ:ASt} {R:AV->ASt->Prop} (hl:args.length<=5) (h:c38_3.wp Tryz.prog (RetQ [.c 2 (some 3)] R) (init args) σ):ACalls Tryz.prog 38 args σ R:=acalls_of Tryz.func38 c38_ok hl h
/-! 40: tabular/tabularref15.Num -/
def c40_3:ACode := .seq (.ops [ oe 2 (.alloc [(.int .i64 0),(.int .i64 0),(.str [])])]) (.seq (.ops [ oq 3 (.mv (.t 0)),oq 4 (.build [(.int .i64 0),(.int .i64 0),(.str [])] [(0,1,(.v (.int .i64 1))),(1,1,(.t 3))]),oz (.store 3 (.t 2) (.t 4))]) .ret)
@[go_sem] def c40_3_wp:=wp_of c40_3.eq_1
def c40:AFn:=⟨5,[.c 2 (some 3)],c40_3⟩
theorem c40_ok:compF Tryz.prog Tryz.f40=some c40:=by kernel_rfl
theorem a40 {args:List AV} {σ:ASt} {R:AV->ASt->Prop} (hl:args.length<=5) (h:c40_3.wp Tryz.prog (RetQ [.c 2 (some 3)] R) (init args) σ):ACalls Tryz.prog 40 args σ R:=acalls_of Tryz.func40 c40_ok hl h
end Go.A
namespace Go.A
open Go.Proofs Go.Lib
theorem rNum_ok (n:Int):Pure Tryz.prog 40 [.int .i64 n] (tellAV (.num n)):=by
 intro σ
 refine a40 (by simp) ?_
 simp (disch:=first|assumption|omega|(simp only [List.length_append,List.length_cons,List.length_nil];omega)) only [go_sem,reduceCtorEq,Nat.reduceEqDiff,Nat.reduceAdd,Nat.reduceSub,Nat.reduceMul,Nat.reduceLeDiff,Int.reduceLT,Int.reduceLE,Int.reduceEq,↓reduceIte,Int.reduceNeg,Int.reduceAdd,Int.reduceSub,Int.reduceMul,true_imp_iff,forall_const,Nat.mul_one,Int.reduceToNat,Nat.reducePow,Int.reducePow,Bool.true_and,Bool.false_and,Bool.and_false]
 refine allocC_by fun b hb=>?_
 simp (disch:=first|assumption|omega|(simp only [List.length_append,List.length_cons,List.length_nil];omega)) only [go_sem,reduceCtorEq,Nat.reduceEqDiff,Nat.reduceAdd,Nat.reduceSub,Nat.reduceMul,Nat.reduceLeDiff,Int.reduceLT,Int.reduceLE,Int.reduceEq,↓reduceIte,Int.reduceNeg,Int.reduceAdd,Int.reduceSub,Int.reduceMul,true_imp_iff,forall_const,Nat.mul_one,Int.reduceToNat,Nat.reducePow,Int.reducePow,Bool.true_and,Bool.false_and,Bool.and_false]
 exact retC_by (by repeat' (first|exact Drop.refl _|with_reducible refine Drop.off ?_ (by assumption))) (.refl _) ⟨rfl,rfl⟩
theorem rFail_ok (n:Int) (h0 : -9223372036854775808<=n) (h1:n<=9223372036854775807):Pure Tryz.prog 38 [.int .i64 n] (tellAV (.fail n)):=by
 intro σ
 refine a38 (by simp) ?_
 simp (disch:=first|assumption|omega|(simp only [List.length_append,List.length_cons,List.length_nil];omega)) only [go_sem,reduceCtorEq,Nat.reduceEqDiff,Nat.reduceAdd,Nat.reduceSub,Nat.reduceMul,Nat.reduceLeDiff,Int.reduceLT,Int.reduceLE,Int.reduceEq,↓reduceIte,Int.reduceNeg,Int.reduceAdd,Int.reduceSub,Int.reduceMul,true_imp_iff,forall_const,Nat.mul_one,Int.reduceToNat,Nat.reducePow,Int.reducePow,Bool.true_and,Bool.false_and,Bool.and_false]
 refine allocC_by fun b hb=>?_
 simp (disch:=first|assumption|omega|(simp only [List.length_append,List.length_cons,List.length_nil];omega)) only [go_sem,reduceCtorEq,Nat.reduceEqDiff,Nat.reduceAdd,Nat.reduceSub,Nat.reduceMul,Nat.reduceLeDiff,Int.reduceLT,Int.reduceLE,Int.reduceEq,↓reduceIte,Int.reduceNeg,Int.reduceAdd,Int.reduceSub,Int.reduceMul,true_imp_iff,forall_const,Nat.mul_one,Int.reduceToNat,Nat.reducePow,Int.reducePow,Bool.true_and,Bool.false_and,Bool.and_false]
 exact retC_by (by repeat' (first|exact Drop.refl _|with_reducible refine Drop.off ?_ (by assumption))) (.refl _) ⟨rfl,rfl⟩
end Go.A
namespace Go.A
open Go.Proofs
/-! 39: tabular/tabularref15.AsNumber -/
def c39_35:ACode := .seq (.ops [ oe 1 (.box (.t 0)),oq 2 (.mv (.v (.int .i64 0))),oq 3 (.mv (.v (.int .i64 0)))]) (.seq (.seq (.ops [ oq 6 (.fa 0 (.t 1)),oq 7 (.ld none (.t 6))]) (.block 0 (.seq (.ops [ oq 9 (.bin .eql (.t 7) (.v (.int .i64 1))),oq 8 (.mv (.t 9))]) (.cond (.t 8) (.seq (.ops [ oq 10 (.fa 1 (.t 1)),oq 11 (.ld none (.t 10)),oq 2 (.mv (.t 11)),oq 3 (.mv (.v (.int .i64 0)))]) .ret) (.seq (.ops [ oq 13 (.bin .eql (.t 7) (.v (.int .i64 2))),oq 12 (.mv (.t 13))]) (.cond (.t 12) (.seq (.ops [ oq 15 (.fa 2 (.t 1)),oq 16 (.ld none (.t 15)),oe 17 (.call 76 [(.t 16)]),oe 18 (.call 75 [(.t 17)]),oq 14 (.mv (.t 18)),oq 19 (.ext 0 (.t 14)),oq 20 (.ext 1 (.t 14)),oq 4 (.mv (.t 19)),oq 5 (.mv (.t 20))]) (.seq (.seq (.ops [ oq 21 (.mv (.t 5)),oq 22 (.un .not (.t 21))]) (.cond (.t 22) (.seq (.ops [ oq 2 (.mv (.v (.int .i64 0))),oq 3 (.mv (.v (.int .i64 3)))]) .ret) .skip)) (.seq (.ops [ oq 23 (.mv (.t 4)),oq 2 (.mv (.t 23)),oq 3 (.mv (.v (.int .i64 0)))]) .ret))) (.seq (.ops [ oq 25 (.bin .eql (.t 7) (.v (.int .i64 3))),oq 24 (.mv (.t 25))]) (.cond (.t 24) (.seq (.ops [ oq 26 (.fa 1 (.t 1)),oq 27 (.ld none (.t 26)),oq 28 (.bin .mul (.t 27) (.v (.int .i64 10000))),oq 2 (.mv (.t 28)),oq 3 (.mv (.v (.int .i64 0)))]) .ret) (.seq (.ops [ oq 30 (.bin .eql (.t 7) (.v (.int .i64 4))),oq 29 (.mv (.t 30))]) (.cond (.t 29) (.seq (.ops [ oq 31 (.fa 1 (.t 1)),oq 32 (.ld none (.t 31)),oq 2 (.mv (.v (.int .i64 0))),oq 3 (.mv (.t 32))]) .ret) .skip)))))))))) (.seq (.ops [ oq 2 (.mv (.v (.int .i64 0))),oq 3 (.mv (.v (.int .i64 0)))]) .ret))
@[go_sem] def c39_35_wp:=wp_of c39_35.eq_1
def c39:AFn:=⟨33,[.t 2,.t 3],c39_35⟩
theorem c39_ok:compF Tryz.prog Tryz.f39=some c39:=by kernel_rfl
theorem a39 {args:List AV} {σ:ASt} {R:AV->ASt->Prop} (hl:args.length<=33) (h:c39_35.wp Tryz.prog (RetQ [.t 2,.t 3] R) (init args) σ):ACalls Tryz.prog 39 args σ R:=acalls_of Tryz.func39 c39_ok hl h
/-! 42: tabular/tabularref15.Counted -/
def c42_9:ACode := .seq (.ops [ oe 4 (.alloc [(.int .i64 0),(.int .i64 0),(.str [])])]) (.seq (.seq (.ops [ oq 5 (.mv (.t 1)),oq 6 (.un .not (.t 5))]) (.cond (.t 6) (.seq (.ops [ oe 7 (.call 38 [(.v (.int .i64 2))]),oz (.store 3 (.t 4) (.t 7))]) .ret) .skip)) (.seq (.ops [ oq 8 (.mv (.t 0)),oe 9 (.call 40 [(.t 8)]),oz (.store 3 (.t 4) (.t 9))]) .ret))
@[go_sem] def c42_9_wp:=wp_of c42_9.eq_1
def c42:AFn:=⟨10,[.c 4 (some 3)],c42_9⟩
theorem c42_ok:compF Tryz.prog Tryz.f42=some c42:=by kernel_rfl
theorem a42 {args:List AV} {σ:ASt} {R:AV->ASt->Prop} (hl:args.length<=10) (h:c42_9.wp Tryz.prog (RetQ [.c 4 (some 3)] R) (init args) σ):ACalls Tryz.prog 42 args σ R:=acalls_of Tryz.func42 c42_ok hl h
/-! 51: tabular/tabularref15.Power -/
def c51_15:ACode := .seq (.ops [ oe 4 (.alloc [(.int .i64 0),(.int .i64 0),(.str [])])]) (.seq (.seq (.ops [ oq 5 (.mv (.t 1)),oq 6 (.bin .rem (.t 5) (.v (.int .i64 10000))),oq 7 (.bin .neq (.t 6) (.v (.int .i64 0)))]) (.cond (.t 7) (.seq (.ops [ oe 8 (.call 38 [(.v (.int .i64 2))]),oz (.store 3 (.t 4) (.t 8))]) .ret) .skip)) (.seq (.seq (.ops [ oq 9 (.mv (.t 0)),oq 10 (.bin .eql (.t 9) (.v (.int .i64 0))),oq 11 (.mv (.t 10)),⟨some 12,some (11,true),.q (.mv (.t 1)),[]⟩,⟨some 13,some (11,true),.q (.bin .lss (.t 12) (.v (.int .i64 0))),[]⟩,oq 14 (.pick (.t 11) (.t 13) (.v (.bool false)))]) (.cond (.t 14) (.seq (.ops [ oe 15 (.call 38 [(.v (.int .i64 1))]),oz (.store 3 (.t 4) (.t 15))]) .ret) .skip)) (.seq (.ops [ oq 16 (.mv (.t 0)),oq 17 (.mv (.t 1)),oq 18 (.bin .quo (.t 17) (.v (.int .i64 10000))),oe 19 (.call 83 [(.t 16),(.t 18)]),oq 20 (.ext 0 (.t 19)),oq 21 (.ext 1 (.t 19)),oe 22 (.call 42 [(.t 20),(.t 21)]),oz (.store 3 (.t 4) (.t 22))]) .ret)))
@[go_sem] def c51_15_wp:=wp_of c51_15.eq_1
def c51:AFn:=⟨23,[.c 4 (some 3)],c51_15⟩
theorem c51_ok:compF Tryz.prog Tryz.f51=some c51:=by kernel_rfl
theorem a51 {args:List AV} {σ:ASt} {R:AV->ASt->Prop} (hl:args.length<=23) (h:c51_15.wp Tryz.prog (RetQ [.c 4 (some 3)] R) (init args) σ):ACalls Tryz.prog 51 args σ R:=acalls_of Tryz.func51 c51_ok hl h
/-! 76: tabular/tabularref15.Trim -/
def c76_6:ACode := .seq (.seq (.ops [ oq 3 (.mv (.t 0)),oq 4 (.lenS (.t 3)),oq 5 (.bin .gtr (.t 4) (.v (.int .i64 0))),oq 6 (.mv (.t 5)),⟨some 7,some (6,true),.q (.mv (.t 0)),[]⟩,⟨some 8,some (6,true),.q (.idx (.t 7) (.v (.int .i64 0))),[]⟩,⟨some 9,some (6,true),.q (.bin .eql (.t 8) (.v (.int .u8 32))),[]⟩,oq 10 (.pick (.t 6) (.t 9) (.v (.bool false)))]) (.cond (.t 10) .skip (.exit 0))) (.block 1 (.ops [ oq 11 (.mv (.t 0)),oq 12 (.slfrom (true,0) (.t 11) (.v (.int .i64 1))),oq 0 (.mv (.t 12))]))
def c76_14:ACode := .seq (.seq (.ops [ oq 13 (.mv (.t 0)),oq 14 (.lenS (.t 13)),oq 15 (.bin .gtr (.t 14) (.v (.int .i64 0))),oq 16 (.mv (.t 15)),⟨some 17,some (16,true),.q (.mv (.t 0)),[]⟩,⟨some 18,some (16,true),.q (.mv (.t 0)),[]⟩,⟨some 19,some (16,true),.q (.lenS (.t 18)),[]⟩,⟨some 20,some (16,true),.q (.bin .sub (.t 19) (.v (.int .i64 1))),[]⟩,⟨some 21,some (16,true),.q (.idx (.t 17) (.t 20)),[]⟩,⟨some 22,some (16,true),.q (.bin .eql (.t 21) (.v (.int .u8 32))),[]⟩,oq 23 (.pick (.t 16) (.t 22) (.v (.bool false)))]) (.cond (.t 23) .skip (.exit 2))) (.block 3 (.ops [ oq 24 (.mv (.t 0)),oq 25 (.mv (.t 0)),oq 26 (.lenS (.t 25)),oq 27 (.bin .sub (.t 26) (.v (.int .i64 1))),oq 28 (.slto (true,0) (.t 24) (.t 27)),oq 0 (.mv (.t 28))]))
def c76_19:ACode := .seq (.block 2 (.loop c76_14)) (.seq (.ops [ oq 29 (.mv (.t 0)),oq 2 (.mv (.t 29))]) .ret)
def c76_21:ACode := .seq (.ops [ oq 2 (.mv (.v (.str [])))]) (.seq (.block 0 (.loop c76_6)) c76_19)
@[go_sem] def c76_6_wp:=wp_of c76_6.eq_1
@[go_sem] def c76_14_wp:=wp_of c76_14.eq_1
@[go_sem] def c76_19_wp:=wp_of c76_19.eq_1
@[go_sem] def c76_21_wp:=wp_of c76_21.eq_1
def c76:AFn:=⟨30,[.t 2],c76_21⟩
theorem c76_ok:compF Tryz.prog Tryz.f76=some c76:=by kernel_rfl
theorem a76 {args:List AV} {σ:ASt} {R:AV->ASt->Prop} (hl:args.length<=30) (h:c76_21.wp Tryz.prog (RetQ [.t 2] R) (init args) σ):ACalls Tryz.prog 76 args σ R:=acalls_of Tryz.func76 c76_ok hl h
end Go.A
namespace Go.A
open Go.Proofs Go.Lib
theorem trimB_cons (l:List UInt8):Lib.trimB (32::l) 32=Lib.trimB l 32:=by
 unfold Lib.trimB Lib.trimRightB
 rw [List.reverse_cons,List.dropWhile_append]
 split
 ·rename_i h
  have h':l.reverse.dropWhile (· == (32:UInt8)) = []:=List.isEmpty_iff.1 h
  rw [h']
  rfl
 ·rw [List.reverse_append]
  rfl
theorem trimB_snoc (l:List UInt8):Lib.trimB (l ++ [32]) 32=Lib.trimB l 32:=by
 unfold Lib.trimB Lib.trimRightB
 rw [List.reverse_append]
 rfl
theorem trimB_id {c d:UInt8} {l:List UInt8} (hc:c≠32) (hd:(c::l).getLast? = some d) (hd2:d≠32):Lib.trimB (c::l) 32=c::l:=by
 have h1:Lib.trimRightB (c::l) 32=c::l:=by
  unfold Lib.trimRightB
  have h2:(c::l).reverse.head? = some d:=by rw [List.head?_reverse];exact hd
  cases hr:(c::l).reverse with
  | nil=>rw [hr] at h2;cases h2
  | cons x r=>
    rw [hr] at h2
    obtain rfl:=Option.some.inj h2
    rw [List.dropWhile_cons,if_neg (by simpa using hd2),← hr,List.reverse_reverse]
 unfold Lib.trimB
 rw [h1]
 unfold Lib.trimLeftB
 rw [List.dropWhile_cons,if_neg (by simpa using hc)]
theorem r15trim_ok (s:List UInt8) (hs:s.length<=100000):Pure Tryz.prog 76 [.str s] (.str (Lib.trimB s 32)):=by
 intro σ
 obtain ⟨T,hT⟩:∃ T,T=Lib.trimB s 32:=⟨_,rfl⟩
 rw [<-hT]
 obtain ⟨J,hJ⟩:∃ J:List UInt8->AFr->ASt->Prop,J=fun x a s2=>(a 0 = .str x/\Lib.trimB x 32=T/\x.length<=s.length)/\s2=σ:=⟨_,rfl⟩
 obtain ⟨J2,hJ2⟩:∃ J:List UInt8->AFr->ASt->Prop,J=fun x a s2=>(a 0 = .str x/\Lib.trimB x 32=T/\x.length<=s.length/\x.head? ≠ some 32)/\s2=σ:=⟨_,rfl⟩
 obtain ⟨F,hF⟩:∃ F,F=ACode.wp Tryz.prog c76_19:=⟨_,rfl⟩
 have u32:∀ c:UInt8,((c.toNat:Int)=32)↔c=32:=fun c=>⟨fun h=>UInt8.toNat_inj.1 (by show c.toNat=32;omega),fun h=>by rw [h];rfl⟩
 have hgo:∀ (x:List UInt8) (a:AFr),(a 0 = .str x/\Lib.trimB x 32=T/\x.length<=s.length/\x.head? ≠ some 32)->F (RetQ [.t 2] fun v σ'=>v = .str T/\σ'=σ) a σ:=by
  intro x a hx
  rw [hF]
  simp (disch:=first|assumption|omega|(simp only [List.length_append,List.length_cons,List.length_nil];omega)) only [go_sem,reduceCtorEq,Nat.reduceEqDiff,Nat.reduceAdd,Nat.reduceSub,Nat.reduceMul,Nat.reduceLeDiff,Int.reduceLT,Int.reduceLE,Int.reduceEq,↓reduceIte,Int.reduceNeg,Int.reduceAdd,Int.reduceSub,Int.reduceMul,true_imp_iff,forall_const,Nat.mul_one,Int.reduceToNat,Nat.reducePow,Int.reducePow,Bool.true_and,Bool.false_and,Bool.and_false]
  refine wp_loop_on J2 (fun x=>x.length) x ?_ ?_
  ·rw [hJ2]
   exact ⟨hx,rfl⟩
  clear hx
  intro y a1 s2 hjj
  rw [hJ2] at hjj
  obtain ⟨⟨hf,hy,hyl,hyh⟩,rfl⟩:=hjj
  rcases List.eq_nil_or_concat y with rfl|⟨r,d,rfl⟩
  ·have h0:Lib.trimB ([]:List UInt8) 32 = []:=rfl
   rw [h0] at hy
   subst hy
   simp (disch:=first|assumption|omega|(simp only [List.length_append,List.length_cons,List.length_nil];omega)) only [go_sem,reduceCtorEq,Nat.reduceEqDiff,Nat.reduceAdd,Nat.reduceSub,Nat.reduceMul,Nat.reduceLeDiff,Int.reduceLT,Int.reduceLE,Int.reduceEq,↓reduceIte,Int.reduceNeg,Int.reduceAdd,Int.reduceSub,Int.reduceMul,true_imp_iff,forall_const,Nat.mul_one,Int.reduceToNat,Nat.reducePow,Int.reducePow,Bool.true_and,Bool.false_and,Bool.and_false,hf]
   exact retC_by (.refl _) (.refl _) ⟨rfl,rfl⟩
  ·rw [List.concat_eq_append] at *
   have hl:((r ++ [d]).length:Int)=(r.length:Int)+1:=by rw [List.length_append];simp
   have hl0:(0:Int)<(r.length:Int)+1:=by omega
   have hix:(r ++ [d])[r.length]? = some d:=by rw [List.getElem?_append_right (Nat.le_refl _),Nat.sub_self];rfl
   have hsub:(r.length:Int)+1-1=(r.length:Int):=by omega
   have htk:(r ++ [d]).take r.length=r:=List.take_left
   have hle:(r.length:Int)<=((r ++ [d]).length:Int):=by omega
   have hlen:(r ++ [d]).length=r.length+1:=by rw [List.length_append];rfl
   by_cases hd:d=32
   ·have hd':(d.toNat:Int)=32:=(u32 d).2 hd
    have hyr:Lib.trimB r 32=T:=by rw [<-hy,hd,trimB_snoc]
    have hrh:r.head? ≠ some 32:=by
     cases r with
     | nil=>simp
     | cons c r=>exact hyh
    generalize r ++ [d]=y at *
    simp (disch:=first|assumption|omega|(simp only [List.length_append,List.length_cons,List.length_nil];omega)) only [go_sem,reduceCtorEq,Nat.reduceEqDiff,Nat.reduceAdd,Nat.reduceSub,Nat.reduceMul,Nat.reduceLeDiff,Int.reduceLT,Int.reduceLE,Int.reduceEq,↓reduceIte,Int.reduceNeg,Int.reduceAdd,Int.reduceSub,Int.reduceMul,true_imp_iff,forall_const,Nat.mul_one,Int.reduceToNat,Nat.reducePow,Int.reducePow,Bool.true_and,Bool.false_and,Bool.and_false,hf,hl,hl0,hsub,hix,hd',htk,Int.toNat_natCast,List.drop_zero]
    refine ⟨r,by omega,?_⟩
    rw [hJ2]
    refine ⟨⟨?_,hyr,by omega,hrh⟩,rfl⟩
    simp (disch:=first|assumption|omega|(simp only [List.length_append,List.length_cons,List.length_nil];omega)) only [go_sem,reduceCtorEq,Nat.reduceEqDiff,Nat.reduceAdd,Nat.reduceSub,Nat.reduceMul,Nat.reduceLeDiff,Int.reduceLT,Int.reduceLE,Int.reduceEq,↓reduceIte,Int.reduceNeg,Int.reduceAdd,Int.reduceSub,Int.reduceMul,true_imp_iff,forall_const,Nat.mul_one,Int.reduceToNat,Nat.reducePow,Int.reducePow,Bool.true_and,Bool.false_and,Bool.and_false,hf]
   ·have hd':¬ (d.toNat:Int)=32:=fun h=>hd ((u32 d).1 h)
    have hyT:r ++ [d]=T:=by
     rw [<-hy]
     cases hr:r ++ [d] with
     | nil=>simp at hr
     | cons c l=>
       rw [hr] at hyh
       refine (trimB_id (d:=d) (fun h=>hyh (by rw [h];rfl)) ?_ hd).symm
       rw [<-hr];simp
    rw [hyT] at hix hl hf
    simp (disch:=first|assumption|omega|(simp only [List.length_append,List.length_cons,List.length_nil];omega)) only [go_sem,reduceCtorEq,Nat.reduceEqDiff,Nat.reduceAdd,Nat.reduceSub,Nat.reduceMul,Nat.reduceLeDiff,Int.reduceLT,Int.reduceLE,Int.reduceEq,↓reduceIte,Int.reduceNeg,Int.reduceAdd,Int.reduceSub,Int.reduceMul,true_imp_iff,forall_const,Nat.mul_one,Int.reduceToNat,Nat.reducePow,Int.reducePow,Bool.true_and,Bool.false_and,Bool.and_false,hf,hl,hl0,hsub,hix,hd',Int.toNat_natCast]
    exact retC_by (.refl _) (.refl _) ⟨rfl,rfl⟩
 refine a76 (by simp) ?_
 simp (disch:=first|assumption|omega|(simp only [List.length_append,List.length_cons,List.length_nil];omega)) only [go_sem,reduceCtorEq,Nat.reduceEqDiff,Nat.reduceAdd,Nat.reduceSub,Nat.reduceMul,Nat.reduceLeDiff,Int.reduceLT,Int.reduceLE,Int.reduceEq,↓reduceIte,Int.reduceNeg,Int.reduceAdd,Int.reduceSub,Int.reduceMul,true_imp_iff,forall_const,Nat.mul_one,Int.reduceToNat,Nat.reducePow,Int.reducePow,Bool.true_and,Bool.false_and,Bool.and_false,←hF]
 refine wp_loop_on J (fun x=>x.length) s ?_ ?_
 ·rw [hJ]
  exact ⟨⟨by simp (disch:=first|assumption|omega|(simp only [List.length_append,List.length_cons,List.length_nil];omega)) only [go_sem,reduceCtorEq,Nat.reduceEqDiff,Nat.reduceAdd,Nat.reduceSub,Nat.reduceMul,Nat.reduceLeDiff,Int.reduceLT,Int.reduceLE,Int.reduceEq,↓reduceIte,Int.reduceNeg,Int.reduceAdd,Int.reduceSub,Int.reduceMul,true_imp_iff,forall_const,Nat.mul_one,Int.reduceToNat,Nat.reducePow,Int.reducePow,Bool.true_and,Bool.false_and,Bool.and_false],hT.symm,Nat.le_refl _⟩,rfl⟩
 intro y a1 s2 hjj
 rw [hJ] at hjj
 obtain ⟨⟨hf,hy,hyl⟩,rfl⟩:=hjj
 cases y with
 | nil=>
   simp (disch:=first|assumption|omega|(simp only [List.length_append,List.length_cons,List.length_nil];omega)) only [go_sem,reduceCtorEq,Nat.reduceEqDiff,Nat.reduceAdd,Nat.reduceSub,Nat.reduceMul,Nat.reduceLeDiff,Int.reduceLT,Int.reduceLE,Int.reduceEq,↓reduceIte,Int.reduceNeg,Int.reduceAdd,Int.reduceSub,Int.reduceMul,true_imp_iff,forall_const,Nat.mul_one,Int.reduceToNat,Nat.reducePow,Int.reducePow,Bool.true_and,Bool.false_and,Bool.and_false,hf,←hF]
   refine hgo [] _ ⟨?_,hy,Nat.zero_le _,by simp⟩
   simp (disch:=first|assumption|omega|(simp only [List.length_append,List.length_cons,List.length_nil];omega)) only [go_sem,reduceCtorEq,Nat.reduceEqDiff,Nat.reduceAdd,Nat.reduceSub,Nat.reduceMul,Nat.reduceLeDiff,Int.reduceLT,Int.reduceLE,Int.reduceEq,↓reduceIte,Int.reduceNeg,Int.reduceAdd,Int.reduceSub,Int.reduceMul,true_imp_iff,forall_const,Nat.mul_one,Int.reduceToNat,Nat.reducePow,Int.reducePow,Bool.true_and,Bool.false_and,Bool.and_false,hf]
 | cons c r=>
   have hl:((c::r).length:Int)=(r.length:Int)+1:=by rw [List.length_cons];omega
   have hl0:(0:Int)<(r.length:Int)+1:=by omega
   have hix:(c::r)[0]? = some c:=rfl
   have hll:(c::r).length=r.length+1:=rfl
   have htn:((r.length:Int)+1).toNat=r.length+1:=by omega
   have htk:((c::r).take (r.length+1)).drop 1=r:=by rw [<-hll,List.take_length];rfl
   have hle:(r.length:Int)+1<=((c::r).length:Int):=by omega
   by_cases hd:c=32
   ·have hd':(c.toNat:Int)=32:=(u32 c).2 hd
    have hyr:Lib.trimB r 32=T:=by rw [<-hy,hd,trimB_cons]
    generalize c::r=y at *
    simp (disch:=first|assumption|omega|(simp only [List.length_append,List.length_cons,List.length_nil];omega)) only [go_sem,reduceCtorEq,Nat.reduceEqDiff,Nat.reduceAdd,Nat.reduceSub,Nat.reduceMul,Nat.reduceLeDiff,Int.reduceLT,Int.reduceLE,Int.reduceEq,↓reduceIte,Int.reduceNeg,Int.reduceAdd,Int.reduceSub,Int.reduceMul,true_imp_iff,forall_const,Nat.mul_one,Int.reduceToNat,Nat.reducePow,Int.reducePow,Bool.true_and,Bool.false_and,Bool.and_false,hf,hl,hl0,hix,hd',htn,htk,←hF]
    refine ⟨r,by omega,?_⟩
    rw [hJ]
    refine ⟨⟨?_,hyr,by omega⟩,rfl⟩
    simp (disch:=first|assumption|omega|(simp only [List.length_append,List.length_cons,List.length_nil];omega)) only [go_sem,reduceCtorEq,Nat.reduceEqDiff,Nat.reduceAdd,Nat.reduceSub,Nat.reduceMul,Nat.reduceLeDiff,Int.reduceLT,Int.reduceLE,Int.reduceEq,↓reduceIte,Int.reduceNeg,Int.reduceAdd,Int.reduceSub,Int.reduceMul,true_imp_iff,forall_const,Nat.mul_one,Int.reduceToNat,Nat.reducePow,Int.reducePow,Bool.true_and,Bool.false_and,Bool.and_false,hf]
   ·have hd':¬ (c.toNat:Int)=32:=fun h=>hd ((u32 c).1 h)
    have hh:(c::r).head? ≠ some 32:=fun h=>hd (Option.some.inj h)
    generalize c::r=y at *
    simp (disch:=first|assumption|omega|(simp only [List.length_append,List.length_cons,List.length_nil];omega)) only [go_sem,reduceCtorEq,Nat.reduceEqDiff,Nat.reduceAdd,Nat.reduceSub,Nat.reduceMul,Nat.reduceLeDiff,Int.reduceLT,Int.reduceLE,Int.reduceEq,↓reduceIte,Int.reduceNeg,Int.reduceAdd,Int.reduceSub,Int.reduceMul,true_imp_iff,forall_const,Nat.mul_one,Int.reduceToNat,Nat.reducePow,Int.reducePow,Bool.true_and,Bool.false_and,Bool.and_false,hf,hl,hl0,hix,hd',←hF]
    refine hgo y _ ⟨?_,hy,hyl,hh⟩
    simp (disch:=first|assumption|omega|(simp only [List.length_append,List.length_cons,List.length_nil];omega)) only [go_sem,reduceCtorEq,Nat.reduceEqDiff,Nat.reduceAdd,Nat.reduceSub,Nat.reduceMul,Nat.reduceLeDiff,Int.reduceLT,Int.reduceLE,Int.reduceEq,↓reduceIte,Int.reduceNeg,Int.reduceAdd,Int.reduceSub,Int.reduceMul,true_imp_iff,forall_const,Nat.mul_one,Int.reduceToNat,Nat.reducePow,Int.reducePow,Bool.true_and,Bool.false_and,Bool.and_false,hf]
set_option maxHeartbeats 1000000 in
theorem r15asnumber_ok (v:PV) (hv:v.small) (hf:∀ n,v = .fail n → -9223372036854775808<=n/\n<=9223372036854775807):Pure Tryz.prog 39 [tellAV v] (.tuple [.int .i64 (asNum v).1,.int .i64 (asNum v).2]):=by
 intro σ
 cases v with
 | blank=>
   simp only [tellAV,asNum]
   refine a39 (by simp) ?_
   simp (disch:=first|assumption|omega|(simp only [List.length_append,List.length_cons,List.length_nil];omega)) only [go_sem,reduceCtorEq,Nat.reduceEqDiff,Nat.reduceAdd,Nat.reduceSub,Nat.reduceMul,Nat.reduceLeDiff,Int.reduceLT,Int.reduceLE,Int.reduceEq,↓reduceIte,Int.reduceNeg,Int.reduceAdd,Int.reduceSub,Int.reduceMul,true_imp_iff,forall_const,Nat.mul_one,Int.reduceToNat,Nat.reducePow,Int.reducePow,Bool.true_and,Bool.false_and,Bool.and_false]
   refine boxC_by rfl fun b hb=>?_
   simp (disch:=first|assumption|omega|(simp only [List.length_append,List.length_cons,List.length_nil];omega)) only [go_sem,reduceCtorEq,Nat.reduceEqDiff,Nat.reduceAdd,Nat.reduceSub,Nat.reduceMul,Nat.reduceLeDiff,Int.reduceLT,Int.reduceLE,Int.reduceEq,↓reduceIte,Int.reduceNeg,Int.reduceAdd,Int.reduceSub,Int.reduceMul,true_imp_iff,forall_const,Nat.mul_one,Int.reduceToNat,Nat.reducePow,Int.reducePow,Bool.true_and,Bool.false_and,Bool.and_false]
   exact retC_by (by repeat' (first|exact Drop.refl _|with_reducible refine Drop.off ?_ (by assumption))) (.refl _) ⟨rfl,rfl⟩
 | num n=>
   simp only [tellAV,asNum]
   refine a39 (by simp) ?_
   simp (disch:=first|assumption|omega|(simp only [List.length_append,List.length_cons,List.length_nil];omega)) only [go_sem,reduceCtorEq,Nat.reduceEqDiff,Nat.reduceAdd,Nat.reduceSub,Nat.reduceMul,Nat.reduceLeDiff,Int.reduceLT,Int.reduceLE,Int.reduceEq,↓reduceIte,Int.reduceNeg,Int.reduceAdd,Int.reduceSub,Int.reduceMul,true_imp_iff,forall_const,Nat.mul_one,Int.reduceToNat,Nat.reducePow,Int.reducePow,Bool.true_and,Bool.false_and,Bool.and_false]
   refine boxC_by rfl fun b hb=>?_
   simp (disch:=first|assumption|omega|(simp only [List.length_append,List.length_cons,List.length_nil];omega)) only [go_sem,reduceCtorEq,Nat.reduceEqDiff,Nat.reduceAdd,Nat.reduceSub,Nat.reduceMul,Nat.reduceLeDiff,Int.reduceLT,Int.reduceLE,Int.reduceEq,↓reduceIte,Int.reduceNeg,Int.reduceAdd,Int.reduceSub,Int.reduceMul,true_imp_iff,forall_const,Nat.mul_one,Int.reduceToNat,Nat.reducePow,Int.reducePow,Bool.true_and,Bool.false_and,Bool.and_false]
   exact retC_by (by repeat' (first|exact Drop.refl _|with_reducible refine Drop.off ?_ (by assumption))) (.refl _) ⟨rfl,rfl⟩
 | text s=>
   have hs:s.length<=100000:=hv
   have hT:=r15trim_ok s hs
   have hP:=rparse_ok (Lib.trimB s 32) (by have:=trimB_len s 32;omega)
   simp only [tellAV,asNum]
   generalize Lib.trimB s 32=t at *
   refine a39 (by simp) ?_
   cases ho:parseD t with
   | none=>
     rw [ho] at hP
     simp only [resAV,Option.getD_none,Option.isSome_none] at hP
     simp (disch:=first|assumption|omega|(simp only [List.length_append,List.length_cons,List.length_nil];omega)) only [go_sem,reduceCtorEq,Nat.reduceEqDiff,Nat.reduceAdd,Nat.reduceSub,Nat.reduceMul,Nat.reduceLeDiff,Int.reduceLT,Int.reduceLE,Int.reduceEq,↓reduceIte,Int.reduceNeg,Int.reduceAdd,Int.reduceSub,Int.reduceMul,true_imp_iff,forall_const,Nat.mul_one,Int.reduceToNat,Nat.reducePow,Int.reducePow,Bool.true_and,Bool.false_and,Bool.and_false]
     refine boxC_by rfl fun b hb=>?_
     simp (disch:=first|assumption|omega|(simp only [List.length_append,List.length_cons,List.length_nil];omega)) only [go_sem,reduceCtorEq,Nat.reduceEqDiff,Nat.reduceAdd,Nat.reduceSub,Nat.reduceMul,Nat.reduceLeDiff,Int.reduceLT,Int.reduceLE,Int.reduceEq,↓reduceIte,Int.reduceNeg,Int.reduceAdd,Int.reduceSub,Int.reduceMul,true_imp_iff,forall_const,Nat.mul_one,Int.reduceToNat,Nat.reducePow,Int.reducePow,Bool.true_and,Bool.false_and,Bool.and_false]
     refine hT.use ?_
     simp (disch:=first|assumption|omega|(simp only [List.length_append,List.length_cons,List.length_nil];omega)) only [go_sem,reduceCtorEq,Nat.reduceEqDiff,Nat.reduceAdd,Nat.reduceSub,Nat.reduceMul,Nat.reduceLeDiff,Int.reduceLT,Int.reduceLE,Int.reduceEq,↓reduceIte,Int.reduceNeg,Int.reduceAdd,Int.reduceSub,Int.reduceMul,true_imp_iff,forall_const,Nat.mul_one,Int.reduceToNat,Nat.reducePow,Int.reducePow,Bool.true_and,Bool.false_and,Bool.and_false]
     refine hP.use ?_
     simp (disch:=first|assumption|omega|(simp only [List.length_append,List.length_cons,List.length_nil];omega)) only [go_sem,reduceCtorEq,Nat.reduceEqDiff,Nat.reduceAdd,Nat.reduceSub,Nat.reduceMul,Nat.reduceLeDiff,Int.reduceLT,Int.reduceLE,Int.reduceEq,↓reduceIte,Int.reduceNeg,Int.reduceAdd,Int.reduceSub,Int.reduceMul,true_imp_iff,forall_const,Nat.mul_one,Int.reduceToNat,Nat.reducePow,Int.reducePow,Bool.true_and,Bool.false_and,Bool.and_false]
     exact retC_by (by repeat' (first|exact Drop.refl _|with_reducible refine Drop.off ?_ (by assumption))) (.refl _) ⟨rfl,rfl⟩
   | some n=>
     rw [ho] at hP
     simp only [resAV,Option.getD_some,Option.isSome_some] at hP
     simp (disch:=first|assumption|omega|(simp only [List.length_append,List.length_cons,List.length_nil];omega)) only [go_sem,reduceCtorEq,Nat.reduceEqDiff,Nat.reduceAdd,Nat.reduceSub,Nat.reduceMul,Nat.reduceLeDiff,Int.reduceLT,Int.reduceLE,Int.reduceEq,↓reduceIte,Int.reduceNeg,Int.reduceAdd,Int.reduceSub,Int.reduceMul,true_imp_iff,forall_const,Nat.mul_one,Int.reduceToNat,Nat.reducePow,Int.reducePow,Bool.true_and,Bool.false_and,Bool.and_false]
     refine boxC_by rfl fun b hb=>?_
     simp (disch:=first|assumption|omega|(simp only [List.length_append,List.length_cons,List.length_nil];omega)) only [go_sem,reduceCtorEq,Nat.reduceEqDiff,Nat.reduceAdd,Nat.reduceSub,Nat.reduceMul,Nat.reduceLeDiff,Int.reduceLT,Int.reduceLE,Int.reduceEq,↓reduceIte,Int.reduceNeg,Int.reduceAdd,Int.reduceSub,Int.reduceMul,true_imp_iff,forall_const,Nat.mul_one,Int.reduceToNat,Nat.reducePow,Int.reducePow,Bool.true_and,Bool.false_and,Bool.and_false]
     refine hT.use ?_
     simp (disch:=first|assumption|omega|(simp only [List.length_append,List.length_cons,List.length_nil];omega)) only [go_sem,reduceCtorEq,Nat.reduceEqDiff,Nat.reduceAdd,Nat.reduceSub,Nat.reduceMul,Nat.reduceLeDiff,Int.reduceLT,Int.reduceLE,Int.reduceEq,↓reduceIte,Int.reduceNeg,Int.reduceAdd,Int.reduceSub,Int.reduceMul,true_imp_iff,forall_const,Nat.mul_one,Int.reduceToNat,Nat.reducePow,Int.reducePow,Bool.true_and,Bool.false_and,Bool.and_false]
     refine hP.use ?_
     simp (disch:=first|assumption|omega|(simp only [List.length_append,List.length_cons,List.length_nil];omega)) only [go_sem,reduceCtorEq,Nat.reduceEqDiff,Nat.reduceAdd,Nat.reduceSub,Nat.reduceMul,Nat.reduceLeDiff,Int.reduceLT,Int.reduceLE,Int.reduceEq,↓reduceIte,Int.reduceNeg,Int.reduceAdd,Int.reduceSub,Int.reduceMul,true_imp_iff,forall_const,Nat.mul_one,Int.reduceToNat,Nat.reducePow,Int.reducePow,Bool.true_and,Bool.false_and,Bool.and_false]
     exact retC_by (by repeat' (first|exact Drop.refl _|with_reducible refine Drop.off ?_ (by assumption))) (.refl _) ⟨rfl,rfl⟩
 | bool x=>
   simp only [tellAV,asNum]
   refine a39 (by simp) ?_
   cases x<;>simp (disch:=first|assumption|omega|(simp only [List.length_append,List.length_cons,List.length_nil];omega)) only [go_sem,reduceCtorEq,Nat.reduceEqDiff,Nat.reduceAdd,Nat.reduceSub,Nat.reduceMul,Nat.reduceLeDiff,Int.reduceLT,Int.reduceLE,Int.reduceEq,↓reduceIte,Int.reduceNeg,Int.reduceAdd,Int.reduceSub,Int.reduceMul,true_imp_iff,forall_const,Nat.mul_one,Int.reduceToNat,Nat.reducePow,Int.reducePow,Bool.true_and,Bool.false_and,Bool.and_false]
   all_goals
    refine boxC_by rfl fun b hb=>?_
    simp (disch:=first|assumption|omega|(simp only [List.length_append,List.length_cons,List.length_nil];omega)) only [go_sem,reduceCtorEq,Nat.reduceEqDiff,Nat.reduceAdd,Nat.reduceSub,Nat.reduceMul,Nat.reduceLeDiff,Int.reduceLT,Int.reduceLE,Int.reduceEq,↓reduceIte,Int.reduceNeg,Int.reduceAdd,Int.reduceSub,Int.reduceMul,true_imp_iff,forall_const,Nat.mul_one,Int.reduceToNat,Nat.reducePow,Int.reducePow,Bool.true_and,Bool.false_and,Bool.and_false]
    exact retC_by (by repeat' (first|exact Drop.refl _|with_reducible refine Drop.off ?_ (by assumption))) (.refl _) ⟨rfl,rfl⟩
 | fail f=>
   obtain ⟨h1,h2⟩:=hf f rfl
   simp only [tellAV,asNum]
   refine a39 (by simp) ?_
   simp (disch:=first|assumption|omega|(simp only [List.length_append,List.length_cons,List.length_nil];omega)) only [go_sem,reduceCtorEq,Nat.reduceEqDiff,Nat.reduceAdd,Nat.reduceSub,Nat.reduceMul,Nat.reduceLeDiff,Int.reduceLT,Int.reduceLE,Int.reduceEq,↓reduceIte,Int.reduceNeg,Int.reduceAdd,Int.reduceSub,Int.reduceMul,true_imp_iff,forall_const,Nat.mul_one,Int.reduceToNat,Nat.reducePow,Int.reducePow,Bool.true_and,Bool.false_and,Bool.and_false]
   refine boxC_by rfl fun b hb=>?_
   simp (disch:=first|assumption|omega|(simp only [List.length_append,List.length_cons,List.length_nil];omega)) only [go_sem,reduceCtorEq,Nat.reduceEqDiff,Nat.reduceAdd,Nat.reduceSub,Nat.reduceMul,Nat.reduceLeDiff,Int.reduceLT,Int.reduceLE,Int.reduceEq,↓reduceIte,Int.reduceNeg,Int.reduceAdd,Int.reduceSub,Int.reduceMul,true_imp_iff,forall_const,Nat.mul_one,Int.reduceToNat,Nat.reducePow,Int.reducePow,Bool.true_and,Bool.false_and,Bool.and_false]
   exact retC_by (by repeat' (first|exact Drop.refl _|with_reducible refine Drop.off ?_ (by assumption))) (.refl _) ⟨rfl,rfl⟩
theorem tell_agg (v:PV):∃ x y z,tellAV v = .agg [.int .i64 x,.int .i64 y,.str z]:=by cases v<;>exact ⟨_,_,_,rfl⟩
theorem r15counted_ok (o:Option Int):Pure Tryz.prog 42 [.int .i64 (o.getD 0),.bool o.isSome] (tellAV (cntP o)):=by
 intro σ
 cases o with
 | none=>
   have hF:=rFail_ok 2 (by omega) (by omega)
   simp only [cntP,tellAV,Option.getD_none,Option.isSome_none] at hF ⊢
   refine a42 (by simp) ?_
   simp (disch:=first|assumption|omega|(simp only [List.length_append,List.length_cons,List.length_nil];omega)) only [go_sem,reduceCtorEq,Nat.reduceEqDiff,Nat.reduceAdd,Nat.reduceSub,Nat.reduceMul,Nat.reduceLeDiff,Int.reduceLT,Int.reduceLE,Int.reduceEq,↓reduceIte,Int.reduceNeg,Int.reduceAdd,Int.reduceSub,Int.reduceMul,true_imp_iff,forall_const,Nat.mul_one,Int.reduceToNat,Nat.reducePow,Int.reducePow,Bool.true_and,Bool.false_and,Bool.and_false]
   refine allocC_by fun c hc=>?_
   repeat (with_reducible replace hc:=set_none hc;obtain ⟨_,_,hc⟩:=hc)
   simp (disch:=first|assumption|omega|(simp only [List.length_append,List.length_cons,List.length_nil];omega)) only [go_sem,reduceCtorEq,Nat.reduceEqDiff,Nat.reduceAdd,Nat.reduceSub,Nat.reduceMul,Nat.reduceLeDiff,Int.reduceLT,Int.reduceLE,Int.reduceEq,↓reduceIte,Int.reduceNeg,Int.reduceAdd,Int.reduceSub,Int.reduceMul,true_imp_iff,forall_const,Nat.mul_one,Int.reduceToNat,Nat.reducePow,Int.reducePow,Bool.true_and,Bool.false_and,Bool.and_false]
   refine hF.use ?_
   simp (disch:=first|assumption|omega|(simp only [List.length_append,List.length_cons,List.length_nil];omega)) only [go_sem,reduceCtorEq,Nat.reduceEqDiff,Nat.reduceAdd,Nat.reduceSub,Nat.reduceMul,Nat.reduceLeDiff,Int.reduceLT,Int.reduceLE,Int.reduceEq,↓reduceIte,Int.reduceNeg,Int.reduceAdd,Int.reduceSub,Int.reduceMul,true_imp_iff,forall_const,Nat.mul_one,Int.reduceToNat,Nat.reducePow,Int.reducePow,Bool.true_and,Bool.false_and,Bool.and_false,ASt.set_set]
   exact retC_by (by repeat' (first|exact Drop.refl _|with_reducible refine Drop.off ?_ (by assumption))) (.refl _) ⟨rfl,rfl⟩
 | some n=>
   have hF:=rNum_ok n
   simp only [cntP,tellAV,Option.getD_some,Option.isSome_some] at hF ⊢
   refine a42 (by simp) ?_
   simp (disch:=first|assumption|omega|(simp only [List.length_append,List.length_cons,List.length_nil];omega)) only [go_sem,reduceCtorEq,Nat.reduceEqDiff,Nat.reduceAdd,Nat.reduceSub,Nat.reduceMul,Nat.reduceLeDiff,Int.reduceLT,Int.reduceLE,Int.reduceEq,↓reduceIte,Int.reduceNeg,Int.reduceAdd,Int.reduceSub,Int.reduceMul,true_imp_iff,forall_const,Nat.mul_one,Int.reduceToNat,Nat.reducePow,Int.reducePow,Bool.true_and,Bool.false_and,Bool.and_false]
   refine allocC_by fun c hc=>?_
   repeat (with_reducible replace hc:=set_none hc;obtain ⟨_,_,hc⟩:=hc)
   simp (disch:=first|assumption|omega|(simp only [List.length_append,List.length_cons,List.length_nil];omega)) only [go_sem,reduceCtorEq,Nat.reduceEqDiff,Nat.reduceAdd,Nat.reduceSub,Nat.reduceMul,Nat.reduceLeDiff,Int.reduceLT,Int.reduceLE,Int.reduceEq,↓reduceIte,Int.reduceNeg,Int.reduceAdd,Int.reduceSub,Int.reduceMul,true_imp_iff,forall_const,Nat.mul_one,Int.reduceToNat,Nat.reducePow,Int.reducePow,Bool.true_and,Bool.false_and,Bool.and_false]
   refine hF.use ?_
   simp (disch:=first|assumption|omega|(simp only [List.length_append,List.length_cons,List.length_nil];omega)) only [go_sem,reduceCtorEq,Nat.reduceEqDiff,Nat.reduceAdd,Nat.reduceSub,Nat.reduceMul,Nat.reduceLeDiff,Int.reduceLT,Int.reduceLE,Int.reduceEq,↓reduceIte,Int.reduceNeg,Int.reduceAdd,Int.reduceSub,Int.reduceMul,true_imp_iff,forall_const,Nat.mul_one,Int.reduceToNat,Nat.reducePow,Int.reducePow,Bool.true_and,Bool.false_and,Bool.and_false,ASt.set_set]
   exact retC_by (by repeat' (first|exact Drop.refl _|with_reducible refine Drop.off ?_ (by assumption))) (.refl _) ⟨rfl,rfl⟩
theorem r15power_ok {x y:Int} (hx:x.natAbs<=999999999999999999) (hy:y.natAbs<=999999999999999999):Pure Tryz.prog 51 [.int .i64 x,.int .i64 y] (tellAV (powV x y)):=by
 intro σ
 obtain ⟨z,hz⟩:∃ z,y.tdiv 10000=z:=⟨_,rfl⟩
 have hzb:z.natAbs<=999999999999999999:=by
  rw [<-hz,Int.natAbs_tdiv]
  exact Nat.le_trans (Nat.div_le_self _ _) hy
 have hP:=rpow_ok x z hx hzb
 have hC:=r15counted_ok (powD x z)
 unfold powV
 rw [hz]
 refine a51 (by simp) ?_
 simp (disch:=first|assumption|omega|(simp only [List.length_append,List.length_cons,List.length_nil];omega)) only [go_sem,reduceCtorEq,Nat.reduceEqDiff,Nat.reduceAdd,Nat.reduceSub,Nat.reduceMul,Nat.reduceLeDiff,Int.reduceLT,Int.reduceLE,Int.reduceEq,↓reduceIte,Int.reduceNeg,Int.reduceAdd,Int.reduceSub,Int.reduceMul,true_imp_iff,forall_const,Nat.mul_one,Int.reduceToNat,Nat.reducePow,Int.reducePow,Bool.true_and,Bool.false_and,Bool.and_false]
 refine allocC_by fun c hc=>?_
 repeat (with_reducible replace hc:=set_none hc;obtain ⟨_,_,hc⟩:=hc)
 by_cases h0:y.tmod 10000=0
 ·rw [if_neg (fun h=>h h0)]
  by_cases h1:x=0
  ·by_cases h2:y<0
   ·rw [if_pos ⟨h1,h2⟩]
    have hF:=rFail_ok 1 (by omega) (by omega)
    simp only [tellAV] at hF ⊢
    simp (disch:=first|assumption|omega|(simp only [List.length_append,List.length_cons,List.length_nil];omega)) only [go_sem,reduceCtorEq,Nat.reduceEqDiff,Nat.reduceAdd,Nat.reduceSub,Nat.reduceMul,Nat.reduceLeDiff,Int.reduceLT,Int.reduceLE,Int.reduceEq,↓reduceIte,Int.reduceNeg,Int.reduceAdd,Int.reduceSub,Int.reduceMul,true_imp_iff,forall_const,Nat.mul_one,Int.reduceToNat,Nat.reducePow,Int.reducePow,Bool.true_and,Bool.false_and,Bool.and_false,h0,h1,h2]
    refine hF.use ?_
    simp (disch:=first|assumption|omega|(simp only [List.length_append,List.length_cons,List.length_nil];omega)) only [go_sem,reduceCtorEq,Nat.reduceEqDiff,Nat.reduceAdd,Nat.reduceSub,Nat.reduceMul,Nat.reduceLeDiff,Int.reduceLT,Int.reduceLE,Int.reduceEq,↓reduceIte,Int.reduceNeg,Int.reduceAdd,Int.reduceSub,Int.reduceMul,true_imp_iff,forall_const,Nat.mul_one,Int.reduceToNat,Nat.reducePow,Int.reducePow,Bool.true_and,Bool.false_and,Bool.and_false,ASt.set_set]
    exact retC_by (by repeat' (first|exact Drop.refl _|with_reducible refine Drop.off ?_ (by assumption))) (.refl _) ⟨rfl,rfl⟩
   ·rw [if_neg (fun h=>h2 h.2)]
    obtain ⟨u,v,w,ht⟩:=tell_agg (cntP (powD x z))
    rw [ht] at hC ⊢
    simp only [resAV] at hP
    clear ht
    generalize powD x z=D at *
    simp (disch:=first|assumption|omega|(simp only [List.length_append,List.length_cons,List.length_nil];omega)) only [go_sem,reduceCtorEq,Nat.reduceEqDiff,Nat.reduceAdd,Nat.reduceSub,Nat.reduceMul,Nat.reduceLeDiff,Int.reduceLT,Int.reduceLE,Int.reduceEq,↓reduceIte,Int.reduceNeg,Int.reduceAdd,Int.reduceSub,Int.reduceMul,true_imp_iff,forall_const,Nat.mul_one,Int.reduceToNat,Nat.reducePow,Int.reducePow,Bool.true_and,Bool.false_and,Bool.and_false,h0,h1,h2,hz]
    rw [<-h1]
    refine hP.use ?_
    simp (disch:=first|assumption|omega|(simp only [List.length_append,List.length_cons,List.length_nil];omega)) only [go_sem,reduceCtorEq,Nat.reduceEqDiff,Nat.reduceAdd,Nat.reduceSub,Nat.reduceMul,Nat.reduceLeDiff,Int.reduceLT,Int.reduceLE,Int.reduceEq,↓reduceIte,Int.reduceNeg,Int.reduceAdd,Int.reduceSub,Int.reduceMul,true_imp_iff,forall_const,Nat.mul_one,Int.reduceToNat,Nat.reducePow,Int.reducePow,Bool.true_and,Bool.false_and,Bool.and_false]
    refine hC.use ?_
    simp (disch:=first|assumption|omega|(simp only [List.length_append,List.length_cons,List.length_nil];omega)) only [go_sem,reduceCtorEq,Nat.reduceEqDiff,Nat.reduceAdd,Nat.reduceSub,Nat.reduceMul,Nat.reduceLeDiff,Int.reduceLT,Int.reduceLE,Int.reduceEq,↓reduceIte,Int.reduceNeg,Int.reduceAdd,Int.reduceSub,Int.reduceMul,true_imp_iff,forall_const,Nat.mul_one,Int.reduceToNat,Nat.reducePow,Int.reducePow,Bool.true_and,Bool.false_and,Bool.and_false,ASt.set_set]
    exact retC_by (by repeat' (first|exact Drop.refl _|with_reducible refine Drop.off ?_ (by assumption))) (.refl _) ⟨rfl,rfl⟩
  ·rw [if_neg (fun h=>h1 h.1)]
   obtain ⟨u,v,w,ht⟩:=tell_agg (cntP (powD x z))
   rw [ht] at hC ⊢
   simp only [resAV] at hP
   clear ht
   generalize powD x z=D at *
   simp (disch:=first|assumption|omega|(simp only [List.length_append,List.length_cons,List.length_nil];omega)) only [go_sem,reduceCtorEq,Nat.reduceEqDiff,Nat.reduceAdd,Nat.reduceSub,Nat.reduceMul,Nat.reduceLeDiff,Int.reduceLT,Int.reduceLE,Int.reduceEq,↓reduceIte,Int.reduceNeg,Int.reduceAdd,Int.reduceSub,Int.reduceMul,true_imp_iff,forall_const,Nat.mul_one,Int.reduceToNat,Nat.reducePow,Int.reducePow,Bool.true_and,Bool.false_and,Bool.and_false,h0,h1,hz]
   refine hP.use ?_
   simp (disch:=first|assumption|omega|(simp only [List.length_append,List.length_cons,List.length_nil];omega)) only [go_sem,reduceCtorEq,Nat.reduceEqDiff,Nat.reduceAdd,Nat.reduceSub,Nat.reduceMul,Nat.reduceLeDiff,Int.reduceLT,Int.reduceLE,Int.reduceEq,↓reduceIte,Int.reduceNeg,Int.reduceAdd,Int.reduceSub,Int.reduceMul,true_imp_iff,forall_const,Nat.mul_one,Int.reduceToNat,Nat.reducePow,Int.reducePow,Bool.true_and,Bool.false_and,Bool.and_false]
   refine hC.use ?_
   simp (disch:=first|assumption|omega|(simp only [List.length_append,List.length_cons,List.length_nil];omega)) only [go_sem,reduceCtorEq,Nat.reduceEqDiff,Nat.reduceAdd,Nat.reduceSub,Nat.reduceMul,Nat.reduceLeDiff,Int.reduceLT,Int.reduceLE,Int.reduceEq,↓reduceIte,Int.reduceNeg,Int.reduceAdd,Int.reduceSub,Int.reduceMul,true_imp_iff,forall_const,Nat.mul_one,Int.reduceToNat,Nat.reducePow,Int.reducePow,Bool.true_and,Bool.false_and,Bool.and_false,ASt.set_set]
   exact retC_by (by repeat' (first|exact Drop.refl _|with_reducible refine Drop.off ?_ (by assumption))) (.refl _) ⟨rfl,rfl⟩
 ·rw [if_pos h0]
  have hF:=rFail_ok 2 (by omega) (by omega)
  simp only [tellAV] at hF ⊢
  simp (disch:=first|assumption|omega|(simp only [List.length_append,List.length_cons,List.length_nil];omega)) only [go_sem,reduceCtorEq,Nat.reduceEqDiff,Nat.reduceAdd,Nat.reduceSub,Nat.reduceMul,Nat.reduceLeDiff,Int.reduceLT,Int.reduceLE,Int.reduceEq,↓reduceIte,Int.reduceNeg,Int.reduceAdd,Int.reduceSub,Int.reduceMul,true_imp_iff,forall_const,Nat.mul_one,Int.reduceToNat,Nat.reducePow,Int.reducePow,Bool.true_and,Bool.false_and,Bool.and_false,h0]
  refine hF.use ?_
  simp (disch:=first|assumption|omega|(simp only [List.length_append,List.length_cons,List.length_nil];omega)) only [go_sem,reduceCtorEq,Nat.reduceEqDiff,Nat.reduceAdd,Nat.reduceSub,Nat.reduceMul,Nat.reduceLeDiff,Int.reduceLT,Int.reduceLE,Int.reduceEq,↓reduceIte,Int.reduceNeg,Int.reduceAdd,Int.reduceSub,Int.reduceMul,true_imp_iff,forall_const,Nat.mul_one,Int.reduceToNat,Nat.reducePow,Int.reducePow,Bool.true_and,Bool.false_and,Bool.and_false,ASt.set_set]
  exact retC_by (by repeat' (first|exact Drop.refl _|with_reducible refine Drop.off ?_ (by assumption))) (.refl _) ⟨rfl,rfl⟩
end Go.A
namespace Go.A
open Go.Proofs
/-! 8: tabular/tabularref16.Has -/
def c8_5:ACode := .seq (.ops [ oq 2 (.mv (.v (.bool false)))]) (.seq (.ops [ oq 6 (.mv (.t 0)),oe 7 (.call 16 [(.t 6)]),oq 5 (.mv (.t 7)),oq 8 (.ext 0 (.t 5)),oq 9 (.ext 1 (.t 5)),oq 3 (.mv (.t 8)),oq 4 (.mv (.t 9))]) (.seq (.ops [ oq 10 (.mv (.t 4)),oq 11 (.bin .gtr (.t 10) (.v (.int .i64 0))),oq 2 (.mv (.t 11))]) .ret))
@[go_sem] def c8_5_wp:=wp_of c8_5.eq_1
def c8:AFn:=⟨12,[.t 2],c8_5⟩
theorem c8_ok:compF Tryz.prog Tryz.f8=some c8:=by kernel_rfl
theorem a8 {args:List AV} {σ:ASt} {R:AV->ASt->Prop} (hl:args.length<=12) (h:c8_5.wp Tryz.prog (RetQ [.t 2] R) (init args) σ):ACalls Tryz.prog 8 args σ R:=acalls_of Tryz.func8 c8_ok hl h
/-! 16: tabular/tabularref16.limits -/
def c16_41:ACode := .seq (.ops [ oq 11 (.bin .lss (.t 10) (.t 9))]) (.seq (.cond (.t 11) .skip (.exit 0)) (.seq (.block 1 (.seq (.ops [ oq 12 (.mv (.t 10)),oq 13 (.ia 1 (.t 8) (.t 10)),oq 14 (.ld none (.t 13)),oq 5 (.mv (.t 12)),oq 6 (.mv (.t 14))]) (.seq (.seq (.ops [ oq 15 (.mv (.t 6)),oq 16 (.mv (.t 0)),oq 17 (.bin .neq (.t 15) (.t 16))]) (.cond (.t 17) (.exit 1) .skip)) (.seq (.seq (.ops [ oq 18 (.mv (.t 5)),oq 19 (.bin .lss (.t 18) (.v (.int .i64 7)))]) (.cond (.t 19) (.seq (.ops [ oq 2 (.mv (.v (.int .i64 1))),oq 3 (.mv (.v (.int .i64 1)))]) .ret) .skip)) (.seq (.seq (.ops [ oq 20 (.mv (.t 5)),oq 21 (.bin .lss (.t 20) (.v (.int .i64 13)))]) (.cond (.t 21) (.seq (.ops [ oq 2 (.mv (.v (.int .i64 1))),oq 3 (.mv (.v (.int .i64 2)))]) .ret) .skip)) (.seq (.seq (.ops [ oq 22 (.mv (.t 5)),oq 23 (.bin .lss (.t 22) (.v (.int .i64 17)))]) (.cond (.t 23) (.seq (.ops [ oq 2 (.mv (.v (.int .i64 2))),oq 3 (.mv (.v (.int .i64 2)))]) .ret) .skip)) (.seq (.seq (.ops [ oq 24 (.mv (.t 5)),oq 25 (.bin .eql (.t 24) (.v (.int .i64 17)))]) (.cond (.t 25) (.seq (.ops [ oq 2 (.mv (.v (.int .i64 3))),oq 3 (.mv (.v (.int .i64 3)))]) .ret) .skip)) (.seq (.ops [ oq 2 (.mv (.v (.int .i64 1))),oq 3 (.mv (.v (.int .i64 30)))]) .ret)))))))) (.ops [ oq 26 (.bin .add (.t 10) (.v (.int .i64 1))),oq 10 (.mv (.t 26))])))
def c16_49:ACode := .seq (.ops [ oq 2 (.mv (.v (.int .i64 0))),oq 3 (.mv (.v (.int .i64 0)))]) (.seq (.ops [ oq 7 (.bsl 1 [(.v (.str [65,66,83])),(.v (.str [83,73,71,78])),(.v (.str [73,78,84])),(.v (.str [83,81,82,84])),(.v (.str [70,65,67,84])),(.v (.str [69,86,69,78])),(.v (.str [79,68,68])),(.v (.str [84,82,85,78,67])),(.v (.str [70,76,79,79,82])),(.v (.str [67,69,73,76,73,78,71])),(.v (.str [82,79,85,78,68])),(.v (.str [82,79,85,78,68,85,80])),(.v (.str [82,79,85,78,68,68,79,87,78])),(.v (.str [77,82,79,85,78,68])),(.v (.str [77,79,68])),(.v (.str [81,85,79,84,73,69,78,84])),(.v (.str [80,79,87,69,82])),(.v (.str [67,76,65,77,80])),(.v (.str [71,67,68])),(.v (.str [76,67,77]))]),oq 4 (.mv (.t 7))]) (.seq (.seq (.ops [ oq 8 (.mv (.t 4)),oq 9 (.len (.t 8)),oq 10 (.mv (.v (.int .i64 0)))]) (.block 0 (.loop c16_41))) (.seq (.ops [ oq 2 (.mv (.v (.int .i64 0))),oq 3 (.mv (.v (.int .i64 0)))]) .ret)))
@[go_sem] def c16_41_wp:=wp_of c16_41.eq_1
@[go_sem] def c16_49_wp:=wp_of c16_49.eq_1
def c16:AFn:=⟨27,[.t 2,.t 3],c16_49⟩
theorem c16_ok:compF Tryz.prog Tryz.f16=some c16:=by kernel_rfl
theorem a16 {args:List AV} {σ:ASt} {R:AV->ASt->Prop} (hl:args.length<=27) (h:c16_49.wp Tryz.prog (RetQ [.t 2,.t 3] R) (init args) σ):ACalls Tryz.prog 16 args σ R:=acalls_of Tryz.func16 c16_ok hl h
/-! 48: tabular/tabularref16.near -/
def c48_11:ACode := .seq (.ops [ oq 4 (.mv (.v (.int .i64 0))),oq 5 (.mv (.v (.bool false)))]) (.seq (.ops [ oq 7 (.mv (.t 0)),oq 8 (.mv (.t 0)),oq 9 (.mv (.t 1)),oq 10 (.bin .rem (.t 8) (.t 9)),oq 11 (.bin .sub (.t 7) (.t 10)),oq 6 (.mv (.t 11))]) (.seq (.seq (.ops [ oq 12 (.mv (.t 0)),oq 13 (.mv (.t 6)),oq 14 (.bin .sub (.t 12) (.t 13)),oq 15 (.bin .mul (.v (.int .i64 2)) (.t 14)),oq 16 (.mv (.t 1)),oq 17 (.bin .geq (.t 15) (.t 16))]) (.cond (.t 17) (.seq (.ops [ oq 18 (.mv (.t 6)),oq 19 (.mv (.t 1)),oe 20 (.call 82 [(.t 18),(.t 19)]),oq 21 (.ext 0 (.t 20)),oq 22 (.ext 1 (.t 20)),oq 4 (.mv (.t 21)),oq 5 (.mv (.t 22))]) .ret) .skip)) (.seq (.ops [ oq 23 (.mv (.t 6)),oq 4 (.mv (.t 23)),oq 5 (.mv (.v (.bool true)))]) .ret)))
@[go_sem] def c48_11_wp:=wp_of c48_11.eq_1
def c48:AFn:=⟨24,[.t 4,.t 5],c48_11⟩
theorem c48_ok:compF Tryz.prog Tryz.f48=some c48:=by kernel_rfl
theorem a48 {args:List AV} {σ:ASt} {R:AV->ASt->Prop} (hl:args.length<=24) (h:c48_11.wp Tryz.prog (RetQ [.t 4,.t 5] R) (init args) σ):ACalls Tryz.prog 48 args σ R:=acalls_of Tryz.func48 c48_ok hl h
/-! 50: tabular/tabularref16.number -/
def c50_9:ACode := .seq (.ops [ oe 2 (.alloc [(.int .i64 0),(.int .i64 0),(.str [])])]) (.seq (.seq (.ops [ oq 3 (.mv (.t 0)),oq 4 (.bin .gtr (.t 3) (.v (.int .i64 99999999999999))),oq 5 (.mv (.t 4)),⟨some 6,some (5,false),.q (.mv (.t 0)),[]⟩,⟨some 7,some (5,false),.q (.bin .lss (.t 6) (.v (.int .i64 (-99999999999999)))),[]⟩,oq 8 (.pick (.t 5) (.v (.bool true)) (.t 7))]) (.cond (.t 8) (.seq (.ops [ oe 9 (.call 38 [(.v (.int .i64 2))]),oz (.store 3 (.t 2) (.t 9))]) .ret) .skip)) (.seq (.ops [ oq 10 (.mv (.t 0)),oq 11 (.bin .mul (.t 10) (.v (.int .i64 10000))),oe 12 (.call 40 [(.t 11)]),oz (.store 3 (.t 2) (.t 12))]) .ret))
@[go_sem] def c50_9_wp:=wp_of c50_9.eq_1
def c50:AFn:=⟨13,[.c 2 (some 3)],c50_9⟩
theorem c50_ok:compF Tryz.prog Tryz.f50=some c50:=by kernel_rfl
theorem a50 {args:List AV} {σ:ASt} {R:AV->ASt->Prop} (hl:args.length<=13) (h:c50_9.wp Tryz.prog (RetQ [.c 2 (some 3)] R) (init args) σ):ACalls Tryz.prog 50 args σ R:=acalls_of Tryz.func50 c50_ok hl h
/-! 54: tabular/tabularref16.even -/
def c54_16:ACode := .seq (.seq (.ops [ oq 21 (.mv (.t 0)),oq 22 (.bin .lss (.t 21) (.v (.int .i64 0)))]) (.cond (.t 22) (.ops [ oq 23 (.mv (.t 5)),oq 24 (.un .neg (.t 23)),oq 5 (.mv (.t 24))]) .skip)) (.seq (.ops [ oq 25 (.mv (.t 5)),oe 26 (.call 50 [(.t 25)]),oz (.store 3 (.t 4) (.t 26))]) .ret)
def c54_17:ACode := .seq (.seq (.ops [ oq 15 (.mv (.t 5)),oq 16 (.bin .rem (.t 15) (.v (.int .i64 2))),oq 17 (.mv (.t 1)),oq 18 (.bin .neq (.t 16) (.t 17))]) (.cond (.t 18) (.ops [ oq 19 (.mv (.t 5)),oq 20 (.bin .add (.t 19) (.v (.int .i64 1))),oq 5 (.mv (.t 20))]) .skip)) c54_16
def c54_20:ACode := .seq (.ops [ oe 4 (.alloc [(.int .i64 0),(.int .i64 0),(.str [])])]) (.seq (.ops [ oq 6 (.mv (.t 0)),oe 7 (.call 41 [(.t 6)]),oq 8 (.conv .i64 (.t 7)),oq 9 (.bin .quo (.t 8) (.v (.int .i64 10000))),oq 5 (.mv (.t 9))]) (.seq (.seq (.ops [ oq 10 (.mv (.t 0)),oq 11 (.bin .rem (.t 10) (.v (.int .i64 10000))),oq 12 (.bin .neq (.t 11) (.v (.int .i64 0)))]) (.cond (.t 12) (.ops [ oq 13 (.mv (.t 5)),oq 14 (.bin .add (.t 13) (.v (.int .i64 1))),oq 5 (.mv (.t 14))]) .skip)) c54_17))
@[go_sem] def c54_16_wp:=wp_of c54_16.eq_1
@[go_sem] def c54_17_wp:=wp_of c54_17.eq_1
@[go_sem] def c54_20_wp:=wp_of c54_20.eq_1
def c54:AFn:=⟨27,[.c 4 (some 3)],c54_20⟩
theorem c54_ok:compF Tryz.prog Tryz.f54=some c54:=by kernel_rfl
theorem a54 {args:List AV} {σ:ASt} {R:AV->ASt->Prop} (hl:args.length<=27) (h:c54_20.wp Tryz.prog (RetQ [.c 4 (some 3)] R) (init args) σ):ACalls Tryz.prog 54 args σ R:=acalls_of Tryz.func54 c54_ok hl h
/-! 87: tabular/tabularref16.gcd -/
def c87_9:ACode := .seq (.ops [ oq 4 (.mv (.v (.int .i64 0)))]) (.seq (.seq (.ops [ oq 5 (.mv (.t 1)),oq 6 (.bin .eql (.t 5) (.v (.int .i64 0)))]) (.cond (.t 6) (.seq (.ops [ oq 7 (.mv (.t 0)),oq 4 (.mv (.t 7))]) .ret) .skip)) (.seq (.ops [ oq 8 (.mv (.t 1)),oq 9 (.mv (.t 0)),oq 10 (.mv (.t 1)),oq 11 (.bin .rem (.t 9) (.t 10)),oe 12 (.call 87 [(.t 8),(.t 11)]),oq 4 (.mv (.t 12))]) .ret))
@[go_sem] def c87_9_wp:=wp_of c87_9.eq_1
def c87:AFn:=⟨13,[.t 4],c87_9⟩
theorem c87_ok:compF Tryz.prog Tryz.f87=some c87:=by kernel_rfl
theorem a87 {args:List AV} {σ:ASt} {R:AV->ASt->Prop} (hl:args.length<=13) (h:c87_9.wp Tryz.prog (RetQ [.t 4] R) (init args) σ):ACalls Tryz.prog 87 args σ R:=acalls_of Tryz.func87 c87_ok hl h
end Go.A
namespace Go.A
open Go.Proofs Go.Lib
def nms:List (List UInt8) := [sABS,sSIGN,sINT,sSQRT,sFACT,sEVEN,sODD,sTRUNC,sFLOOR,sCEIL,sROUND,sUP,sDOWN,sMROUND,sMOD,sQUOT,sPOWER,sCLAMP,sGCD,sLCM]
def limI (i:Nat):Int×Int:=if i<7 then (1,1) else if i<13 then (1,2) else if i<17 then (2,2) else if i=17 then (3,3) else (1,30)
theorem limP_all:∀ i:Fin 20,limP (nms[i.1]?.getD [])=limI i.1:=by decide +kernel
theorem limP_at {s:List UInt8} {i:Nat} (h:nms[i]? = some s):limP s=limI i:=by
 have hi:i<20:=(List.getElem?_eq_some_iff.1 h).1
 have:=limP_all ⟨i,hi⟩
 rw [h,Option.getD_some] at this
 exact this
theorem limP_no {s:List UInt8} (h:∀ j:Nat,j<20->nms[j]? ≠ some s):limP s=(0,0):=by
 have h1:s ∉ nms:=by
  intro hm
  obtain ⟨j,hj,hs⟩:=List.mem_iff_getElem.1 hm
  exact h j hj (by rw [List.getElem?_eq_getElem hj,hs])
 simp only [nms,List.mem_cons,List.not_mem_nil,or_false,not_or] at h1
 simp [limP,h1]
theorem str_get {l:List (List UInt8)} {i:Nat} {x:List UInt8} (h:l[i]? = some x):(l.map AV.str)[i]? = some (.str x):=by rw [List.getElem?_map,h];rfl
set_option maxHeartbeats 1000000 in
theorem rlimits_ok (s:List UInt8):Pure Tryz.prog 16 [.str s] (.tuple [.int .i64 (limP s).1,.int .i64 (limP s).2]):=by
 intro σ
 refine a16 (by simp) ?_
 simp (disch:=first|assumption|omega|(simp only [List.length_append,List.length_cons,List.length_nil];omega)) only [go_sem,reduceCtorEq,Nat.reduceEqDiff,Nat.reduceAdd,Nat.reduceSub,Nat.reduceMul,Nat.reduceLeDiff,Int.reduceLT,Int.reduceLE,Int.reduceEq,↓reduceIte,Int.reduceNeg,Int.reduceAdd,Int.reduceSub,Int.reduceMul,true_imp_iff,forall_const,Nat.mul_one,Int.reduceToNat,Nat.reducePow,Int.reducePow,Bool.true_and,Bool.false_and,Bool.and_false]
 refine wp_loop_on (fun (i:Nat) a s2=>i<=20/\(∀ j:Nat,j<i->nms[j]? ≠ some s)/\(a 0 = .str s/\(∃ k,a 8 = .sl k (nms.map AV.str))/\a 9 = .int .i64 20/\a 10 = .int .i64 i)/\s2=σ) (fun i=>20-i) 0 ⟨Nat.zero_le _,(fun j hj=>absurd hj (by omega)),?_,rfl⟩ ?_
 ·simp (disch:=first|assumption|omega|(simp only [List.length_append,List.length_cons,List.length_nil];omega)) only [go_sem,reduceCtorEq,Nat.reduceEqDiff,Nat.reduceAdd,Nat.reduceSub,Nat.reduceMul,Nat.reduceLeDiff,Int.reduceLT,Int.reduceLE,Int.reduceEq,↓reduceIte,Int.reduceNeg,Int.reduceAdd,Int.reduceSub,Int.reduceMul,true_imp_iff,forall_const,Nat.mul_one,Int.reduceToNat,Nat.reducePow,Int.reducePow,Bool.true_and,Bool.false_and,Bool.and_false]
  exact ⟨_,rfl⟩
 rintro i a s2 ⟨hi,hno,⟨f0,⟨k,f8⟩,f9,f10⟩,rfl⟩
 by_cases hlt:i<20
 ·have hlt':(i:Int)<20:=by omega
  obtain ⟨x,hx⟩:∃ x,nms[i]? = some x:=⟨_,List.getElem?_eq_getElem (show i<nms.length from hlt)⟩
  have hg:=str_get hx
  by_cases he:x=s
  ·subst he
   have hl:=limP_at hx
   rw [hl]
   unfold limI
   have he:(x=x)=True:=eq_self x
   by_cases c1:i<7
   ·have c1':(i:Int)<7:=by omega
    rw [if_pos c1]
    simp (disch:=first|assumption|omega|(simp only [List.length_append,List.length_cons,List.length_nil];omega)) only [go_sem,reduceCtorEq,Nat.reduceEqDiff,Nat.reduceAdd,Nat.reduceSub,Nat.reduceMul,Nat.reduceLeDiff,Int.reduceLT,Int.reduceLE,Int.reduceEq,↓reduceIte,Int.reduceNeg,Int.reduceAdd,Int.reduceSub,Int.reduceMul,true_imp_iff,forall_const,Nat.mul_one,Int.reduceToNat,Nat.reducePow,Int.reducePow,Bool.true_and,Bool.false_and,Bool.and_false,f0,f8,f9,f10,hlt',hg,c1']
    exact retC_by (by repeat' (first|exact Drop.refl _|with_reducible refine Drop.off ?_ (by assumption))) (.refl _) ⟨rfl,rfl⟩
   rw [if_neg c1]
   have c1':¬ (i:Int)<7:=by omega
   by_cases c2:i<13
   ·have c2':(i:Int)<13:=by omega
    rw [if_pos c2]
    simp (disch:=first|assumption|omega|(simp only [List.length_append,List.length_cons,List.length_nil];omega)) only [go_sem,reduceCtorEq,Nat.reduceEqDiff,Nat.reduceAdd,Nat.reduceSub,Nat.reduceMul,Nat.reduceLeDiff,Int.reduceLT,Int.reduceLE,Int.reduceEq,↓reduceIte,Int.reduceNeg,Int.reduceAdd,Int.reduceSub,Int.reduceMul,true_imp_iff,forall_const,Nat.mul_one,Int.reduceToNat,Nat.reducePow,Int.reducePow,Bool.true_and,Bool.false_and,Bool.and_false,f0,f8,f9,f10,hlt',hg,c1',c2']
    exact retC_by (by repeat' (first|exact Drop.refl _|with_reducible refine Drop.off ?_ (by assumption))) (.refl _) ⟨rfl,rfl⟩
   rw [if_neg c2]
   have c2':¬ (i:Int)<13:=by omega
   by_cases c3:i<17
   ·have c3':(i:Int)<17:=by omega
    rw [if_pos c3]
    simp (disch:=first|assumption|omega|(simp only [List.length_append,List.length_cons,List.length_nil];omega)) only [go_sem,reduceCtorEq,Nat.reduceEqDiff,Nat.reduceAdd,Nat.reduceSub,Nat.reduceMul,Nat.reduceLeDiff,Int.reduceLT,Int.reduceLE,Int.reduceEq,↓reduceIte,Int.reduceNeg,Int.reduceAdd,Int.reduceSub,Int.reduceMul,true_imp_iff,forall_const,Nat.mul_one,Int.reduceToNat,Nat.reducePow,Int.reducePow,Bool.true_and,Bool.false_and,Bool.and_false,f0,f8,f9,f10,hlt',hg,c1',c2',c3']
    exact retC_by (by repeat' (first|exact Drop.refl _|with_reducible refine Drop.off ?_ (by assumption))) (.refl _) ⟨rfl,rfl⟩
   rw [if_neg c3]
   have c3':¬ (i:Int)<17:=by omega
   by_cases c4:i=17
   ·have c4':((i:Int)=17)=True:=eq_true (by omega)
    rw [if_pos c4]
    simp (disch:=first|assumption|omega|(simp only [List.length_append,List.length_cons,List.length_nil];omega)) only [go_sem,reduceCtorEq,Nat.reduceEqDiff,Nat.reduceAdd,Nat.reduceSub,Nat.reduceMul,Nat.reduceLeDiff,Int.reduceLT,Int.reduceLE,Int.reduceEq,↓reduceIte,Int.reduceNeg,Int.reduceAdd,Int.reduceSub,Int.reduceMul,true_imp_iff,forall_const,Nat.mul_one,Int.reduceToNat,Nat.reducePow,Int.reducePow,Bool.true_and,Bool.false_and,Bool.and_false,f0,f8,f9,f10,hlt',hg,c1',c2',c3',c4']
    exact retC_by (by repeat' (first|exact Drop.refl _|with_reducible refine Drop.off ?_ (by assumption))) (.refl _) ⟨rfl,rfl⟩
   ·have c4':¬ (i:Int)=17:=by omega
    rw [if_neg c4]
    simp (disch:=first|assumption|omega|(simp only [List.length_append,List.length_cons,List.length_nil];omega)) only [go_sem,reduceCtorEq,Nat.reduceEqDiff,Nat.reduceAdd,Nat.reduceSub,Nat.reduceMul,Nat.reduceLeDiff,Int.reduceLT,Int.reduceLE,Int.reduceEq,↓reduceIte,Int.reduceNeg,Int.reduceAdd,Int.reduceSub,Int.reduceMul,true_imp_iff,forall_const,Nat.mul_one,Int.reduceToNat,Nat.reducePow,Int.reducePow,Bool.true_and,Bool.false_and,Bool.and_false,f0,f8,f9,f10,hlt',hg,c1',c2',c3',c4']
    exact retC_by (by repeat' (first|exact Drop.refl _|with_reducible refine Drop.off ?_ (by assumption))) (.refl _) ⟨rfl,rfl⟩
  ·simp (disch:=first|assumption|omega|(simp only [List.length_append,List.length_cons,List.length_nil];omega)) only [go_sem,reduceCtorEq,Nat.reduceEqDiff,Nat.reduceAdd,Nat.reduceSub,Nat.reduceMul,Nat.reduceLeDiff,Int.reduceLT,Int.reduceLE,Int.reduceEq,↓reduceIte,Int.reduceNeg,Int.reduceAdd,Int.reduceSub,Int.reduceMul,true_imp_iff,forall_const,Nat.mul_one,Int.reduceToNat,Nat.reducePow,Int.reducePow,Bool.true_and,Bool.false_and,Bool.and_false,f0,f8,f9,f10,hlt',hg,he]
   refine ⟨i+1,by omega,by omega,?_,?_⟩
   ·intro j hj
    by_cases hji:j=i
    ·subst hji
     rw [hx]
     exact fun h=>he (Option.some.inj h)
    ·exact hno j (by omega)
   ·first
     | exact ⟨⟨k,rfl⟩,rfl⟩
     | exact ⟨k,rfl⟩
 ·have hlt':¬ (i:Int)<20:=by omega
  rw [limP_no fun j hj=>hno j (by omega)]
  simp (disch:=first|assumption|omega|(simp only [List.length_append,List.length_cons,List.length_nil];omega)) only [go_sem,reduceCtorEq,Nat.reduceEqDiff,Nat.reduceAdd,Nat.reduceSub,Nat.reduceMul,Nat.reduceLeDiff,Int.reduceLT,Int.reduceLE,Int.reduceEq,↓reduceIte,Int.reduceNeg,Int.reduceAdd,Int.reduceSub,Int.reduceMul,true_imp_iff,forall_const,Nat.mul_one,Int.reduceToNat,Nat.reducePow,Int.reducePow,Bool.true_and,Bool.false_and,Bool.and_false,f0,f8,f9,f10,hlt']
  exact retC_by (by repeat' (first|exact Drop.refl _|with_reducible refine Drop.off ?_ (by assumption))) (.refl _) ⟨rfl,rfl⟩
theorem rhas_ok (s:List UInt8):Pure Tryz.prog 8 [.str s] (.bool (decide (0<(limP s).2))):=by
 intro σ
 have hL:=rlimits_ok s
 generalize (limP s).1=x at *
 generalize (limP s).2=y at *
 refine a8 (by simp) ?_
 simp (disch:=first|assumption|omega|(simp only [List.length_append,List.length_cons,List.length_nil];omega)) only [go_sem,reduceCtorEq,Nat.reduceEqDiff,Nat.reduceAdd,Nat.reduceSub,Nat.reduceMul,Nat.reduceLeDiff,Int.reduceLT,Int.reduceLE,Int.reduceEq,↓reduceIte,Int.reduceNeg,Int.reduceAdd,Int.reduceSub,Int.reduceMul,true_imp_iff,forall_const,Nat.mul_one,Int.reduceToNat,Nat.reducePow,Int.reducePow,Bool.true_and,Bool.false_and,Bool.and_false]
 refine hL.use ?_
 simp (disch:=first|assumption|omega|(simp only [List.length_append,List.length_cons,List.length_nil];omega)) only [go_sem,reduceCtorEq,Nat.reduceEqDiff,Nat.reduceAdd,Nat.reduceSub,Nat.reduceMul,Nat.reduceLeDiff,Int.reduceLT,Int.reduceLE,Int.reduceEq,↓reduceIte,Int.reduceNeg,Int.reduceAdd,Int.reduceSub,Int.reduceMul,true_imp_iff,forall_const,Nat.mul_one,Int.reduceToNat,Nat.reducePow,Int.reducePow,Bool.true_and,Bool.false_and,Bool.and_false]
 exact retC_by (by repeat' (first|exact Drop.refl _|with_reducible refine Drop.off ?_ (by assumption))) (.refl _) ⟨rfl,rfl⟩
theorem rnumber_ok {n:Int} (hn:n.natAbs<=9223372036854775807):Pure Tryz.prog 50 [.int .i64 n] (tellAV (cntP (intP n))):=by
 intro σ
 have hF:=rFail_ok 2 (by omega) (by omega)
 have hN:=rNum_ok (n*10000)
 unfold intP
 refine a50 (by simp) ?_
 by_cases h1:99999999999999<n
 ·rw [if_neg (by omega)]
  simp only [cntP,tellAV] at hF ⊢
  simp (disch:=first|assumption|omega|(simp only [List.length_append,List.length_cons,List.length_nil];omega)) only [go_sem,reduceCtorEq,Nat.reduceEqDiff,Nat.reduceAdd,Nat.reduceSub,Nat.reduceMul,Nat.reduceLeDiff,Int.reduceLT,Int.reduceLE,Int.reduceEq,↓reduceIte,Int.reduceNeg,Int.reduceAdd,Int.reduceSub,Int.reduceMul,true_imp_iff,forall_const,Nat.mul_one,Int.reduceToNat,Nat.reducePow,Int.reducePow,Bool.true_and,Bool.false_and,Bool.and_false]
  refine allocC_by fun c hc=>?_
  repeat (with_reducible replace hc:=set_none hc;obtain ⟨_,_,hc⟩:=hc)
  simp (disch:=first|assumption|omega|(simp only [List.length_append,List.length_cons,List.length_nil];omega)) only [go_sem,reduceCtorEq,Nat.reduceEqDiff,Nat.reduceAdd,Nat.reduceSub,Nat.reduceMul,Nat.reduceLeDiff,Int.reduceLT,Int.reduceLE,Int.reduceEq,↓reduceIte,Int.reduceNeg,Int.reduceAdd,Int.reduceSub,Int.reduceMul,true_imp_iff,forall_const,Nat.mul_one,Int.reduceToNat,Nat.reducePow,Int.reducePow,Bool.true_and,Bool.false_and,Bool.and_false,h1]
  refine hF.use ?_
  simp (disch:=first|assumption|omega|(simp only [List.length_append,List.length_cons,List.length_nil];omega)) only [go_sem,reduceCtorEq,Nat.reduceEqDiff,Nat.reduceAdd,Nat.reduceSub,Nat.reduceMul,Nat.reduceLeDiff,Int.reduceLT,Int.reduceLE,Int.reduceEq,↓reduceIte,Int.reduceNeg,Int.reduceAdd,Int.reduceSub,Int.reduceMul,true_imp_iff,forall_const,Nat.mul_one,Int.reduceToNat,Nat.reducePow,Int.reducePow,Bool.true_and,Bool.false_and,Bool.and_false,ASt.set_set]
  exact retC_by (by repeat' (first|exact Drop.refl _|with_reducible refine Drop.off ?_ (by assumption))) (.refl _) ⟨rfl,rfl⟩
 by_cases h2:n < -99999999999999
 ·rw [if_neg (by omega)]
  simp only [cntP,tellAV] at hF ⊢
  simp (disch:=first|assumption|omega|(simp only [List.length_append,List.length_cons,List.length_nil];omega)) only [go_sem,reduceCtorEq,Nat.reduceEqDiff,Nat.reduceAdd,Nat.reduceSub,Nat.reduceMul,Nat.reduceLeDiff,Int.reduceLT,Int.reduceLE,Int.reduceEq,↓reduceIte,Int.reduceNeg,Int.reduceAdd,Int.reduceSub,Int.reduceMul,true_imp_iff,forall_const,Nat.mul_one,Int.reduceToNat,Nat.reducePow,Int.reducePow,Bool.true_and,Bool.false_and,Bool.and_false]
  refine allocC_by fun c hc=>?_
  repeat (with_reducible replace hc:=set_none hc;obtain ⟨_,_,hc⟩:=hc)
  simp (disch:=first|assumption|omega|(simp only [List.length_append,List.length_cons,List.length_nil];omega)) only [go_sem,reduceCtorEq,Nat.reduceEqDiff,Nat.reduceAdd,Nat.reduceSub,Nat.reduceMul,Nat.reduceLeDiff,Int.reduceLT,Int.reduceLE,Int.reduceEq,↓reduceIte,Int.reduceNeg,Int.reduceAdd,Int.reduceSub,Int.reduceMul,true_imp_iff,forall_const,Nat.mul_one,Int.reduceToNat,Nat.reducePow,Int.reducePow,Bool.true_and,Bool.false_and,Bool.and_false,h1,h2]
  refine hF.use ?_
  simp (disch:=first|assumption|omega|(simp only [List.length_append,List.length_cons,List.length_nil];omega)) only [go_sem,reduceCtorEq,Nat.reduceEqDiff,Nat.reduceAdd,Nat.reduceSub,Nat.reduceMul,Nat.reduceLeDiff,Int.reduceLT,Int.reduceLE,Int.reduceEq,↓reduceIte,Int.reduceNeg,Int.reduceAdd,Int.reduceSub,Int.reduceMul,true_imp_iff,forall_const,Nat.mul_one,Int.reduceToNat,Nat.reducePow,Int.reducePow,Bool.true_and,Bool.false_and,Bool.and_false,ASt.set_set]
  exact retC_by (by repeat' (first|exact Drop.refl _|with_reducible refine Drop.off ?_ (by assumption))) (.refl _) ⟨rfl,rfl⟩
 rw [if_pos (by omega)]
 simp only [cntP,tellAV] at hN ⊢
 simp (disch:=first|assumption|omega|(simp only [List.length_append,List.length_cons,List.length_nil];omega)) only [go_sem,reduceCtorEq,Nat.reduceEqDiff,Nat.reduceAdd,Nat.reduceSub,Nat.reduceMul,Nat.reduceLeDiff,Int.reduceLT,Int.reduceLE,Int.reduceEq,↓reduceIte,Int.reduceNeg,Int.reduceAdd,Int.reduceSub,Int.reduceMul,true_imp_iff,forall_const,Nat.mul_one,Int.reduceToNat,Nat.reducePow,Int.reducePow,Bool.true_and,Bool.false_and,Bool.and_false]
 refine allocC_by fun c hc=>?_
 repeat (with_reducible replace hc:=set_none hc;obtain ⟨_,_,hc⟩:=hc)
 simp (disch:=first|assumption|omega|(simp only [List.length_append,List.length_cons,List.length_nil];omega)) only [go_sem,reduceCtorEq,Nat.reduceEqDiff,Nat.reduceAdd,Nat.reduceSub,Nat.reduceMul,Nat.reduceLeDiff,Int.reduceLT,Int.reduceLE,Int.reduceEq,↓reduceIte,Int.reduceNeg,Int.reduceAdd,Int.reduceSub,Int.reduceMul,true_imp_iff,forall_const,Nat.mul_one,Int.reduceToNat,Nat.reducePow,Int.reducePow,Bool.true_and,Bool.false_and,Bool.and_false,h1,h2]
 refine hN.use ?_
 simp (disch:=first|assumption|omega|(simp only [List.length_append,List.length_cons,List.length_nil];omega)) only [go_sem,reduceCtorEq,Nat.reduceEqDiff,Nat.reduceAdd,Nat.reduceSub,Nat.reduceMul,Nat.reduceLeDiff,Int.reduceLT,Int.reduceLE,Int.reduceEq,↓reduceIte,Int.reduceNeg,Int.reduceAdd,Int.reduceSub,Int.reduceMul,true_imp_iff,forall_const,Nat.mul_one,Int.reduceToNat,Nat.reducePow,Int.reducePow,Bool.true_and,Bool.false_and,Bool.and_false,ASt.set_set]
 exact retC_by (by repeat' (first|exact Drop.refl _|with_reducible refine Drop.off ?_ (by assumption))) (.refl _) ⟨rfl,rfl⟩
theorem rnear_ok {A S:Nat} (hA:A<=999999999999999999) (hS:S<=999999999999999999) (hS0:0<S):Pure Tryz.prog 48 [.int .i64 A,.int .i64 S] (resAV (nearO A S)):=by
 intro σ
 obtain ⟨r,hr⟩:∃ r:Nat,A % S=r:=⟨_,rfl⟩
 have hrS:r<S:=hr▸Nat.mod_lt _ hS0
 have hrA:r<=A:=hr▸Nat.mod_le _ _
 have e1:(A:Int).tmod S=r:=by rw [<-hr];rfl
 have e2:(A:Int) % S=r:=by rw [<-hr];rfl
 unfold nearO
 rw [e2]
 have e3:(A:Int)-r=((A-r:Nat):Int):=by omega
 obtain ⟨L,hL⟩:∃ L,A-r=L:=⟨_,rfl⟩
 rw [e3,hL]
 have e4:(A:Int)-r=L:=by omega
 have e5:(A:Int)-L=r:=by omega
 have hD:=radd_ok (a:=(L:Int)) (b:=(S:Int)) (by omega)
 have hS0':¬ (S:Int)=0:=by omega
 refine a48 (by simp) ?_
 by_cases h:S-r<=r
 ·have h1:(S:Int)<=2*r:=by omega
  rw [if_pos (by omega)]
  generalize fitP ((L:Int)+S)=D at *
  simp only [resAV] at hD ⊢
  simp (disch:=first|assumption|omega|(simp only [List.length_append,List.length_cons,List.length_nil];omega)) only [go_sem,reduceCtorEq,Nat.reduceEqDiff,Nat.reduceAdd,Nat.reduceSub,Nat.reduceMul,Nat.reduceLeDiff,Int.reduceLT,Int.reduceLE,Int.reduceEq,↓reduceIte,Int.reduceNeg,Int.reduceAdd,Int.reduceSub,Int.reduceMul,true_imp_iff,forall_const,Nat.mul_one,Int.reduceToNat,Nat.reducePow,Int.reducePow,Bool.true_and,Bool.false_and,Bool.and_false,e1,e4,e5,h1,hS0']
  refine hD.use ?_
  simp (disch:=first|assumption|omega|(simp only [List.length_append,List.length_cons,List.length_nil];omega)) only [go_sem,reduceCtorEq,Nat.reduceEqDiff,Nat.reduceAdd,Nat.reduceSub,Nat.reduceMul,Nat.reduceLeDiff,Int.reduceLT,Int.reduceLE,Int.reduceEq,↓reduceIte,Int.reduceNeg,Int.reduceAdd,Int.reduceSub,Int.reduceMul,true_imp_iff,forall_const,Nat.mul_one,Int.reduceToNat,Nat.reducePow,Int.reducePow,Bool.true_and,Bool.false_and,Bool.and_false]
  exact retC_by (by repeat' (first|exact Drop.refl _|with_reducible refine Drop.off ?_ (by assumption))) (.refl _) ⟨rfl,rfl⟩
 ·have h1:¬ (S:Int)<=2*r:=by omega
  rw [if_neg (by omega)]
  simp only [resAV,Option.getD_some,Option.isSome_some]
  simp (disch:=first|assumption|omega|(simp only [List.length_append,List.length_cons,List.length_nil];omega)) only [go_sem,reduceCtorEq,Nat.reduceEqDiff,Nat.reduceAdd,Nat.reduceSub,Nat.reduceMul,Nat.reduceLeDiff,Int.reduceLT,Int.reduceLE,Int.reduceEq,↓reduceIte,Int.reduceNeg,Int.reduceAdd,Int.reduceSub,Int.reduceMul,true_imp_iff,forall_const,Nat.mul_one,Int.reduceToNat,Nat.reducePow,Int.reducePow,Bool.true_and,Bool.false_and,Bool.and_false,e1,e4,e5,h1,hS0']
  exact retC_by (by repeat' (first|exact Drop.refl _|with_reducible refine Drop.off ?_ (by assumption))) (.refl _) ⟨rfl,rfl⟩
theorem rgcd_ok:∀ (y x:Nat),x<=999999999999999999->y<=999999999999999999->Pure Tryz.prog 87 [.int .i64 x,.int .i64 y] (.int .i64 (Nat.gcd x y:Nat)):=by
 intro y
 induction y using Nat.strongRecOn with
 | _ y ih=>
   intro x hx hy σ
   refine a87 (by simp) ?_
   by_cases h0:y=0
   ·subst h0
    rw [Nat.gcd_zero_right]
    have h0':((0:Nat):Int)=0:=rfl
    simp (disch:=first|assumption|omega|(simp only [List.length_append,List.length_cons,List.length_nil];omega)) only [go_sem,reduceCtorEq,Nat.reduceEqDiff,Nat.reduceAdd,Nat.reduceSub,Nat.reduceMul,Nat.reduceLeDiff,Int.reduceLT,Int.reduceLE,Int.reduceEq,↓reduceIte,Int.reduceNeg,Int.reduceAdd,Int.reduceSub,Int.reduceMul,true_imp_iff,forall_const,Nat.mul_one,Int.reduceToNat,Nat.reducePow,Int.reducePow,Bool.true_and,Bool.false_and,Bool.and_false,h0']
    exact retC_by (by repeat' (first|exact Drop.refl _|with_reducible refine Drop.off ?_ (by assumption))) (.refl _) ⟨rfl,rfl⟩
   ·have h0':¬ (y:Int)=0:=by omega
    have hlt:x % y<y:=Nat.mod_lt _ (by omega)
    have hI:=ih (x % y) hlt y hy (by omega)
    have e:Nat.gcd y (x % y)=Nat.gcd x y:=by rw [Nat.gcd_comm,← Nat.gcd_rec,Nat.gcd_comm]
    rw [e] at hI
    have e1:(x:Int).tmod y=((x % y:Nat):Int):=rfl
    obtain ⟨r,hr⟩:∃ r,x % y=r:=⟨_,rfl⟩
    rw [hr] at hI e1 hlt
    generalize Nat.gcd x y=g at *
    simp (disch:=first|assumption|omega|(simp only [List.length_append,List.length_cons,List.length_nil];omega)) only [go_sem,reduceCtorEq,Nat.reduceEqDiff,Nat.reduceAdd,Nat.reduceSub,Nat.reduceMul,Nat.reduceLeDiff,Int.reduceLT,Int.reduceLE,Int.reduceEq,↓reduceIte,Int.reduceNeg,Int.reduceAdd,Int.reduceSub,Int.reduceMul,true_imp_iff,forall_const,Nat.mul_one,Int.reduceToNat,Nat.reducePow,Int.reducePow,Bool.true_and,Bool.false_and,Bool.and_false,h0',e1]
    refine hI.use ?_
    simp (disch:=first|assumption|omega|(simp only [List.length_append,List.length_cons,List.length_nil];omega)) only [go_sem,reduceCtorEq,Nat.reduceEqDiff,Nat.reduceAdd,Nat.reduceSub,Nat.reduceMul,Nat.reduceLeDiff,Int.reduceLT,Int.reduceLE,Int.reduceEq,↓reduceIte,Int.reduceNeg,Int.reduceAdd,Int.reduceSub,Int.reduceMul,true_imp_iff,forall_const,Nat.mul_one,Int.reduceToNat,Nat.reducePow,Int.reducePow,Bool.true_and,Bool.false_and,Bool.and_false]
    exact retC_by (by repeat' (first|exact Drop.refl _|with_reducible refine Drop.off ?_ (by assumption))) (.refl _) ⟨rfl,rfl⟩
set_option maxHeartbeats 1000000 in
theorem reven_ok {a:Int} (odd:Nat) (ha:a.natAbs<=999999999999999999) (ho:odd<=1):Pure Tryz.prog 54 [.int .i64 a,.int .i64 odd] (tellAV (cntP (intP (evenN a odd)))):=by
 intro σ
 have hA:=rsize_ok a ha
 obtain ⟨A,hAe⟩:∃ A:Nat,a.natAbs=A:=⟨_,rfl⟩
 rw [hAe] at hA ha
 have eW:(A:Int).tdiv 10000=((A / 10000:Nat):Int):=rfl
 have eA:IntKind.i64.wrap (A:Int)=A:=by rw [IntKind.wrap_i64];omega
 have eI:(a.tmod 10000=0)↔(A % 10000=0):=by
  rw [<-hAe]
  constructor
  ·intro h
   have:=Int.natAbs_tmod a 10000
   rw [h] at this
   simpa using this.symm
  ·exact tmod_zero
 unfold evenN
 rw [hAe]
 dsimp only
 refine a54 (by simp) ?_
 obtain ⟨n0,h0⟩:∃ n0,A / 10000=n0:=⟨_,rfl⟩
 rw [h0] at eW ⊢
 obtain ⟨n1,h1⟩:∃ n1,(if A % 10000=0 then n0 else n0+1)=n1:=⟨_,rfl⟩
 rw [h1]
 obtain ⟨n2,h2⟩:∃ n2,(if n1 % 2=odd then n1 else n1+1)=n2:=⟨_,rfl⟩
 rw [h2]
 have hb0:n0<=99999999999999:=by omega
 have hb1:n1<=100000000000000:=by rw [<-h1];split<;>omega
 have hb2:n2<=100000000000001:=by rw [<-h2];split<;>omega
 simp (disch:=first|assumption|omega|(simp only [List.length_append,List.length_cons,List.length_nil];omega)) only [go_sem,reduceCtorEq,Nat.reduceEqDiff,Nat.reduceAdd,Nat.reduceSub,Nat.reduceMul,Nat.reduceLeDiff,Int.reduceLT,Int.reduceLE,Int.reduceEq,↓reduceIte,Int.reduceNeg,Int.reduceAdd,Int.reduceSub,Int.reduceMul,true_imp_iff,forall_const,Nat.mul_one,Int.reduceToNat,Nat.reducePow,Int.reducePow,Bool.true_and,Bool.false_and,Bool.and_false]
 refine allocC_by fun c hc=>?_
 repeat (with_reducible replace hc:=set_none hc;obtain ⟨_,_,hc⟩:=hc)
 obtain ⟨τ,hτ⟩:∃ τ,τ=σ.set c (some (.obj [.int .i64 0,.int .i64 0,.str []])):=⟨_,rfl⟩
 rw [<-hτ]
 obtain ⟨G,hG⟩:∃ G,G=ACode.wp Tryz.prog c54_16:=⟨_,rfl⟩
 obtain ⟨x,y,z,ht⟩:=tell_agg (cntP (intP (if a<0 then -(n2:Int) else n2)))
 have kN:∀ m:Int,m=(if a<0 then -(n2:Int) else n2)->Pure Tryz.prog 50 [.int .i64 m] (.agg [.int .i64 x,.int .i64 y,.str z]):=by
  intro m hm
  rw [<-ht,← hm]
  exact rnumber_ok (by rw [hm];split<;>omega)
 rw [ht]
 have g2:∀ (a0:AFr),(a0 0 = .int .i64 a/\a0 4 = .ptr c 0/\a0 5 = .int .i64 n2)->G (RetQ [.c 4 (some 3)] fun v σ'=>v = .agg [.int .i64 x,.int .i64 y,.str z]/\σ'=σ) a0 τ:=by
  intro a0 hf
  rw [hG,hτ]
  by_cases h:a<0
  ·have k1:=kN (0-n2) (by rw [if_pos h];omega)
   simp (disch:=first|assumption|omega|(simp only [List.length_append,List.length_cons,List.length_nil];omega)) only [go_sem,reduceCtorEq,Nat.reduceEqDiff,Nat.reduceAdd,Nat.reduceSub,Nat.reduceMul,Nat.reduceLeDiff,Int.reduceLT,Int.reduceLE,Int.reduceEq,↓reduceIte,Int.reduceNeg,Int.reduceAdd,Int.reduceSub,Int.reduceMul,true_imp_iff,forall_const,Nat.mul_one,Int.reduceToNat,Nat.reducePow,Int.reducePow,Bool.true_and,Bool.false_and,Bool.and_false,hf,h]
   refine k1.use ?_
   simp (disch:=first|assumption|omega|(simp only [List.length_append,List.length_cons,List.length_nil];omega)) only [go_sem,reduceCtorEq,Nat.reduceEqDiff,Nat.reduceAdd,Nat.reduceSub,Nat.reduceMul,Nat.reduceLeDiff,Int.reduceLT,Int.reduceLE,Int.reduceEq,↓reduceIte,Int.reduceNeg,Int.reduceAdd,Int.reduceSub,Int.reduceMul,true_imp_iff,forall_const,Nat.mul_one,Int.reduceToNat,Nat.reducePow,Int.reducePow,Bool.true_and,Bool.false_and,Bool.and_false,hf,ASt.set_set]
   exact retC_by (by repeat' (first|exact Drop.refl _|with_reducible refine Drop.off ?_ (by assumption))) (.refl _) ⟨rfl,rfl⟩
  ·have k1:=kN n2 (by rw [if_neg h])
   simp (disch:=first|assumption|omega|(simp only [List.length_append,List.length_cons,List.length_nil];omega)) only [go_sem,reduceCtorEq,Nat.reduceEqDiff,Nat.reduceAdd,Nat.reduceSub,Nat.reduceMul,Nat.reduceLeDiff,Int.reduceLT,Int.reduceLE,Int.reduceEq,↓reduceIte,Int.reduceNeg,Int.reduceAdd,Int.reduceSub,Int.reduceMul,true_imp_iff,forall_const,Nat.mul_one,Int.reduceToNat,Nat.reducePow,Int.reducePow,Bool.true_and,Bool.false_and,Bool.and_false,hf,h]
   refine k1.use ?_
   simp (disch:=first|assumption|omega|(simp only [List.length_append,List.length_cons,List.length_nil];omega)) only [go_sem,reduceCtorEq,Nat.reduceEqDiff,Nat.reduceAdd,Nat.reduceSub,Nat.reduceMul,Nat.reduceLeDiff,Int.reduceLT,Int.reduceLE,Int.reduceEq,↓reduceIte,Int.reduceNeg,Int.reduceAdd,Int.reduceSub,Int.reduceMul,true_imp_iff,forall_const,Nat.mul_one,Int.reduceToNat,Nat.reducePow,Int.reducePow,Bool.true_and,Bool.false_and,Bool.and_false,hf,ASt.set_set]
   exact retC_by (by repeat' (first|exact Drop.refl _|with_reducible refine Drop.off ?_ (by assumption))) (.refl _) ⟨rfl,rfl⟩
 obtain ⟨H,hH⟩:∃ H,H=ACode.wp Tryz.prog c54_17:=⟨_,rfl⟩
 have g1:∀ (a0:AFr),(a0 0 = .int .i64 a/\a0 1 = .int .i64 odd/\a0 4 = .ptr c 0/\a0 5 = .int .i64 n1)->H (RetQ [.c 4 (some 3)] fun v σ'=>v = .agg [.int .i64 x,.int .i64 y,.str z]/\σ'=σ) a0 τ:=by
  intro a0 hf
  rw [hH]
  have t1:((n1:Nat):Int).tmod 2=((n1 % 2:Nat):Int):=rfl
  by_cases h:n1 % 2=odd
  ·rw [if_pos h] at h2
   have h':((n1 % 2:Nat):Int)=odd:=by omega
   simp (disch:=first|assumption|omega|(simp only [List.length_append,List.length_cons,List.length_nil];omega)) only [go_sem,reduceCtorEq,Nat.reduceEqDiff,Nat.reduceAdd,Nat.reduceSub,Nat.reduceMul,Nat.reduceLeDiff,Int.reduceLT,Int.reduceLE,Int.reduceEq,↓reduceIte,Int.reduceNeg,Int.reduceAdd,Int.reduceSub,Int.reduceMul,true_imp_iff,forall_const,Nat.mul_one,Int.reduceToNat,Nat.reducePow,Int.reducePow,Bool.true_and,Bool.false_and,Bool.and_false,hf,t1,h',←hG]
   refine g2 _ ?_
   rw [<-h2]
   simp (disch:=first|assumption|omega|(simp only [List.length_append,List.length_cons,List.length_nil];omega)) only [go_sem,reduceCtorEq,Nat.reduceEqDiff,Nat.reduceAdd,Nat.reduceSub,Nat.reduceMul,Nat.reduceLeDiff,Int.reduceLT,Int.reduceLE,Int.reduceEq,↓reduceIte,Int.reduceNeg,Int.reduceAdd,Int.reduceSub,Int.reduceMul,true_imp_iff,forall_const,Nat.mul_one,Int.reduceToNat,Nat.reducePow,Int.reducePow,Bool.true_and,Bool.false_and,Bool.and_false,hf]
  ·rw [if_neg h] at h2
   have h':¬ ((n1 % 2:Nat):Int)=odd:=by omega
   have e:(n1:Int)+1=n2:=by omega
   simp (disch:=first|assumption|omega|(simp only [List.length_append,List.length_cons,List.length_nil];omega)) only [go_sem,reduceCtorEq,Nat.reduceEqDiff,Nat.reduceAdd,Nat.reduceSub,Nat.reduceMul,Nat.reduceLeDiff,Int.reduceLT,Int.reduceLE,Int.reduceEq,↓reduceIte,Int.reduceNeg,Int.reduceAdd,Int.reduceSub,Int.reduceMul,true_imp_iff,forall_const,Nat.mul_one,Int.reduceToNat,Nat.reducePow,Int.reducePow,Bool.true_and,Bool.false_and,Bool.and_false,hf,t1,h',e,←hG]
   refine g2 _ ?_
   simp (disch:=first|assumption|omega|(simp only [List.length_append,List.length_cons,List.length_nil];omega)) only [go_sem,reduceCtorEq,Nat.reduceEqDiff,Nat.reduceAdd,Nat.reduceSub,Nat.reduceMul,Nat.reduceLeDiff,Int.reduceLT,Int.reduceLE,Int.reduceEq,↓reduceIte,Int.reduceNeg,Int.reduceAdd,Int.reduceSub,Int.reduceMul,true_imp_iff,forall_const,Nat.mul_one,Int.reduceToNat,Nat.reducePow,Int.reducePow,Bool.true_and,Bool.false_and,Bool.and_false,hf]
 simp (disch:=first|assumption|omega|(simp only [List.length_append,List.length_cons,List.length_nil];omega)) only [go_sem,reduceCtorEq,Nat.reduceEqDiff,Nat.reduceAdd,Nat.reduceSub,Nat.reduceMul,Nat.reduceLeDiff,Int.reduceLT,Int.reduceLE,Int.reduceEq,↓reduceIte,Int.reduceNeg,Int.reduceAdd,Int.reduceSub,Int.reduceMul,true_imp_iff,forall_const,Nat.mul_one,Int.reduceToNat,Nat.reducePow,Int.reducePow,Bool.true_and,Bool.false_and,Bool.and_false,←hH]
 refine hA.use ?_
 by_cases h:A % 10000=0
 ·rw [if_pos h] at h1
  have h':=eI.2 h
  simp (disch:=first|assumption|omega|(simp only [List.length_append,List.length_cons,List.length_nil];omega)) only [go_sem,reduceCtorEq,Nat.reduceEqDiff,Nat.reduceAdd,Nat.reduceSub,Nat.reduceMul,Nat.reduceLeDiff,Int.reduceLT,Int.reduceLE,Int.reduceEq,↓reduceIte,Int.reduceNeg,Int.reduceAdd,Int.reduceSub,Int.reduceMul,true_imp_iff,forall_const,Nat.mul_one,Int.reduceToNat,Nat.reducePow,Int.reducePow,Bool.true_and,Bool.false_and,Bool.and_false,eA,eW,h',←hH]
  refine g1 _ ?_
  rw [<-h1]
  simp (disch:=first|assumption|omega|(simp only [List.length_append,List.length_cons,List.length_nil];omega)) only [go_sem,reduceCtorEq,Nat.reduceEqDiff,Nat.reduceAdd,Nat.reduceSub,Nat.reduceMul,Nat.reduceLeDiff,Int.reduceLT,Int.reduceLE,Int.reduceEq,↓reduceIte,Int.reduceNeg,Int.reduceAdd,Int.reduceSub,Int.reduceMul,true_imp_iff,forall_const,Nat.mul_one,Int.reduceToNat,Nat.reducePow,Int.reducePow,Bool.true_and,Bool.false_and,Bool.and_false]
 ·rw [if_neg h] at h1
  have h':¬ a.tmod 10000=0:=fun x=>h (eI.1 x)
  have e:(n0:Int)+1=n1:=by omega
  simp (disch:=first|assumption|omega|(simp only [List.length_append,List.length_cons,List.length_nil];omega)) only [go_sem,reduceCtorEq,Nat.reduceEqDiff,Nat.reduceAdd,Nat.reduceSub,Nat.reduceMul,Nat.reduceLeDiff,Int.reduceLT,Int.reduceLE,Int.reduceEq,↓reduceIte,Int.reduceNeg,Int.reduceAdd,Int.reduceSub,Int.reduceMul,true_imp_iff,forall_const,Nat.mul_one,Int.reduceToNat,Nat.reducePow,Int.reducePow,Bool.true_and,Bool.false_and,Bool.and_false,eA,eW,h',e,←hH]
  refine g1 _ ?_
  simp (disch:=first|assumption|omega|(simp only [List.length_append,List.length_cons,List.length_nil];omega)) only [go_sem,reduceCtorEq,Nat.reduceEqDiff,Nat.reduceAdd,Nat.reduceSub,Nat.reduceMul,Nat.reduceLeDiff,Int.reduceLT,Int.reduceLE,Int.reduceEq,↓reduceIte,Int.reduceNeg,Int.reduceAdd,Int.reduceSub,Int.reduceMul,true_imp_iff,forall_const,Nat.mul_one,Int.reduceToNat,Nat.reducePow,Int.reducePow,Bool.true_and,Bool.false_and,Bool.and_false]
end Go.A
