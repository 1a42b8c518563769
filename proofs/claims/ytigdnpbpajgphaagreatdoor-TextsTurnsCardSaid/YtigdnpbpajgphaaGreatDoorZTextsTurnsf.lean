/- Part 6 of what TextsTurns leans on: Eg Jg CodeJl Jl CodeJo CodeJp Jp CodeUc Uc CodeUd Ud CodeUe Ue Zd Zg CodeZw Zw CodeUf Uf Jq. -/
import Derived.Test.YtigdnpbpajgphaaGreatDoorProg
import Derived.KernelRfl
import Derived.Lib.LaidU8
import Derived.Test.YtigdnpbpajgphaaGreatDoorZTextsTurnse
set_option linter.defProp false
set_option linter.unusedSimpArgs false
set_option linter.unusedVariables false
set_option maxRecDepth 100000
namespace Go.A
open Go.Proofs Go.Lib
theorem sgF_step {k:Nat} {r:List UInt8} (h0:r ≠ []) (hv:decodeL r≠(65533,1)):sgF (k+1) r=(sgF k (r.drop (decodeL r).2)).map (· + 1):=by
 rw [sgF,if_neg h0,if_neg hv]
theorem sgT_fuel:∀ (k m:Nat) (r:List UInt8),r.length<k->r.length<m->sgF k r=sgF m r
 | 0,_,r,h,_=>absurd h (Nat.not_lt_zero _)
 | _,0,r,_,h=>absurd h (Nat.not_lt_zero _)
 | k+1,m+1,r,h1,h2=>by
   rw [sgF,sgF]
   by_cases h0:r = []
   ·rw [if_pos h0,if_pos h0]
   ·rw [if_neg h0,if_neg h0]
    split
    ·rfl
    ·have hw:=decodeL_width r
     have hl:=List.length_pos_iff.2 h0
     rw [sgT_fuel k m _ (by rw [List.length_drop];omega) (by rw [List.length_drop];omega)]
def sgT (r:List UInt8):Option Nat:=sgF (r.length+1) r
theorem sgT_nil:sgT []=some 0:=rfl
theorem sgT_bad {r:List UInt8} (h0:r ≠ []) (hv:decodeL r=(65533,1)):sgT r=none:=by
 unfold sgT
 rw [sgF,if_neg h0,if_pos hv]
theorem sgT_step {r:List UInt8} (h0:r ≠ []) (hv:decodeL r≠(65533,1)):sgT r=(sgT (r.drop (decodeL r).2)).map (· + 1):=by
 unfold sgT
 rw [sgF_step h0 hv]
 have hw:=decodeL_width r
 have hl:=List.length_pos_iff.2 h0
 rw [sgT_fuel r.length ((r.drop (decodeL r).2).length+1) _ (by rw [List.length_drop];omega) (by omega)]
def sgAV (s:List UInt8):AV:=match sgT s with
 | some n => .tuple [.int .i64 n,.bool true]
 | none => .tuple [.int .i64 0,.bool false]
def moreP (s:List UInt8) (at' lo hi:Nat):Bool:=decide (at'<s.length/\lo<=(s.getD at' 0).toNat/\(s.getD at' 0).toNat<=hi)
theorem more_ok (s:List UInt8) (at' lo hi:Nat) (ha:at'<=9000000000000000000):Pure Tryz.prog 13 [.str s,.int .i64 at',.int .i64 lo,.int .i64 hi] (.bool (moreP s at' lo hi)):=by
 intro σ
 refine a13 (by simp) ?_
 unfold moreP
 by_cases h:at'<s.length
 ·have h':(at':Int)<s.length:=by omega
  have hx : s[at']? = some (s[at']'h) := List.getElem?_eq_getElem h
  obtain ⟨c, hc⟩ : ∃ c, s[at']'h = c := ⟨_, rfl⟩
  rw [hc] at hx
  have hg:s.getD at' 0=c:=by rw [List.getD_eq_getElem?_getD,hx];rfl
  rw [hg]
  have hcb:=u8_lt c
  by_cases h1:lo<=c.toNat
  ·have h1':(lo:Int)<=c.toNat:=by omega
   by_cases h2:c.toNat<=hi
   ·have h2':(c.toNat:Int)<=hi:=by omega
    rw [decide_eq_true ⟨h,h1,h2⟩]
    simp (disch:=first|assumption|omega|(simp only [List.length_append,List.length_cons,List.length_nil];omega)) only [go_sem,reduceCtorEq,Nat.reduceEqDiff,Nat.reduceAdd,Nat.reduceSub,Nat.reduceMul,Nat.reduceLeDiff,Int.reduceLT,Int.reduceLE,Int.reduceEq,↓reduceIte,Int.reduceNeg,Int.reduceAdd,Int.reduceSub,Int.reduceMul,true_imp_iff,forall_const,Nat.mul_one,Int.reduceToNat,Nat.reducePow,Int.reducePow,Bool.true_and,Bool.false_and,Bool.and_false,h',hx,h1',h2']
    exact retC_by (by repeat' (first|exact Drop.refl _|with_reducible refine Drop.off ?_ (by assumption))) (.refl _) ⟨rfl,rfl⟩
   ·have h2':¬ (c.toNat:Int)<=hi:=by omega
    rw [decide_eq_false (fun h=>h2 h.2.2)]
    simp (disch:=first|assumption|omega|(simp only [List.length_append,List.length_cons,List.length_nil];omega)) only [go_sem,reduceCtorEq,Nat.reduceEqDiff,Nat.reduceAdd,Nat.reduceSub,Nat.reduceMul,Nat.reduceLeDiff,Int.reduceLT,Int.reduceLE,Int.reduceEq,↓reduceIte,Int.reduceNeg,Int.reduceAdd,Int.reduceSub,Int.reduceMul,true_imp_iff,forall_const,Nat.mul_one,Int.reduceToNat,Nat.reducePow,Int.reducePow,Bool.true_and,Bool.false_and,Bool.and_false,h',hx,h1',h2']
    exact retC_by (by repeat' (first|exact Drop.refl _|with_reducible refine Drop.off ?_ (by assumption))) (.refl _) ⟨rfl,rfl⟩
  ·have h1':¬ (lo:Int)<=c.toNat:=by omega
   rw [decide_eq_false (fun h=>h1 h.2.1)]
   simp (disch:=first|assumption|omega|(simp only [List.length_append,List.length_cons,List.length_nil];omega)) only [go_sem,reduceCtorEq,Nat.reduceEqDiff,Nat.reduceAdd,Nat.reduceSub,Nat.reduceMul,Nat.reduceLeDiff,Int.reduceLT,Int.reduceLE,Int.reduceEq,↓reduceIte,Int.reduceNeg,Int.reduceAdd,Int.reduceSub,Int.reduceMul,true_imp_iff,forall_const,Nat.mul_one,Int.reduceToNat,Nat.reducePow,Int.reducePow,Bool.true_and,Bool.false_and,Bool.and_false,h',hx,h1']
   exact retC_by (by repeat' (first|exact Drop.refl _|with_reducible refine Drop.off ?_ (by assumption))) (.refl _) ⟨rfl,rfl⟩
 ·have h':¬ (at':Int)<s.length:=by omega
  rw [decide_eq_false (fun h2=>h h2.1)]
  simp (disch:=first|assumption|omega|(simp only [List.length_append,List.length_cons,List.length_nil];omega)) only [go_sem,reduceCtorEq,Nat.reduceEqDiff,Nat.reduceAdd,Nat.reduceSub,Nat.reduceMul,Nat.reduceLeDiff,Int.reduceLT,Int.reduceLE,Int.reduceEq,↓reduceIte,Int.reduceNeg,Int.reduceAdd,Int.reduceSub,Int.reduceMul,true_imp_iff,forall_const,Nat.mul_one,Int.reduceToNat,Nat.reducePow,Int.reducePow,Bool.true_and,Bool.false_and,Bool.and_false,h']
  exact retC_by (by repeat' (first|exact Drop.refl _|with_reducible refine Drop.off ?_ (by assumption))) (.refl _) ⟨rfl,rfl⟩
def sigL (r:List UInt8):Nat:=if r = [] then 0 else if decodeL r=(65533,1) then 0 else (decodeL r).2
def sigN (n b0 b1 b2 b3:Nat):Nat:=
 let lo:=if b0=224 then 160 else if b0=240 then 144 else 128
 let hi:=if b0=237 then 159 else if b0=244 then 143 else 191
 if b0<128 then 1
 else if 194<=b0/\b0<=223/\(1<n/\128<=b1/\b1<=191) then 2
 else if 224<=b0/\b0<=239/\(1<n/\lo<=b1/\b1<=hi)/\(2<n/\128<=b2/\b2<=191) then 3
 else if 240<=b0/\b0<=244/\(1<n/\lo<=b1/\b1<=hi)/\(2<n/\128<=b2/\b2<=191)/\(3<n/\128<=b3/\b3<=191) then 4
 else 0
set_option maxHeartbeats 2000000 in
theorem sigN_eq {n b0 b1 b2 b3:Nat} (h0:b0<256) (h1:b1<256) (h2:b2<256) (h3:b3<256):sigN n b0 b1 b2 b3=if decodeN n b0 b1 b2 b3=(65533,1) then 0 else (decodeN n b0 b1 b2 b3).2:=by
 have key:∀ (x:Nat×Nat) (v:Nat),v=(if x=(65533,1) then 0 else x.2)↔(x.1=65533/\x.2=1->v=0)/\(¬ (x.1=65533/\x.2=1)->v=x.2):=by
  intro x v
  obtain ⟨x1,x2⟩:=x
  simp only [Prod.mk.injEq]
  split
  ·rename_i h;exact ⟨fun e=>⟨fun _=>e,fun hn=>absurd h hn⟩,fun hh=>hh.1 h⟩
  ·rename_i h;exact ⟨fun e=>⟨fun hh=>absurd hh h,fun _=>e⟩,fun hh=>hh.2 h⟩
 rw [key]
 unfold sigN decodeN
 dsimp only
 by_cases c1:b0<128
 ·simp only [if_pos c1];exact ⟨fun h=>by omega,fun _=>trivial⟩
 simp only [if_neg c1]
 by_cases c2:b0 / 32=6
 ·rw [if_neg (show ¬ (224<=b0/\b0<=239/\_) from fun h=>by omega),if_neg (show ¬ (240<=b0/\b0<=244/\_) from fun h=>by omega)]
  rw [if_neg (show ¬ (b0 / 16=14/\_) from fun h=>by omega),if_neg (show ¬ (b0 / 8=30/\_) from fun h=>by omega)]
  repeat' split
  all_goals (dsimp only;omega)
 rw [if_neg (show ¬ (194<=b0/\b0<=223/\_) from fun h=>by omega),if_neg (show ¬ (b0 / 32=6/\_) from fun h=>by omega)]
 by_cases c3:b0 / 16=14
 ·rw [if_neg (show ¬ (240<=b0/\b0<=244/\_) from fun h=>by omega),if_neg (show ¬ (b0 / 8=30/\_) from fun h=>by omega)]
  rw [if_neg (show ¬ b0=240 by omega),if_neg (show ¬ b0=244 by omega)]
  repeat' split
  all_goals (dsimp only;omega)
 rw [if_neg (show ¬ (224<=b0/\b0<=239/\_) from fun h=>by omega),if_neg (show ¬ (b0 / 16=14/\_) from fun h=>by omega)]
 rw [if_neg (show ¬ b0=224 by omega),if_neg (show ¬ b0=237 by omega)]
 repeat' split
 all_goals (dsimp only;omega)
theorem sigL_N {r:List UInt8} (h:r ≠ []):sigL r=sigN r.length (r.getD 0 0).toNat (r.getD 1 0).toNat (r.getD 2 0).toNat (r.getD 3 0).toNat:=by
 unfold sigL
 rw [if_neg h,decodeL_N,sigN_eq (UInt8.toNat_lt _) (UInt8.toNat_lt _) (UInt8.toNat_lt _) (UInt8.toNat_lt _)]
theorem more_at (s:List UInt8) (p k lo hi:Nat) (hp:p+k<=9000000000000000000):Pure Tryz.prog 13 [.str s,.int .i64 ((p:Int)+k),.int .i64 lo,.int .i64 hi] (.bool (moreP s (p+k) lo hi)):=by
 have:=more_ok s (p+k) lo hi hp
 rw [Int.natCast_add] at this
 exact this
theorem more_iff (s:List UInt8) (p k lo hi:Nat) (hp:p<=s.length):moreP s (p+k) lo hi=true↔(k<(s.drop p).length/\lo<=((s.drop p).getD k 0).toNat/\((s.drop p).getD k 0).toNat<=hi):=by
 unfold moreP
 rw [decide_eq_true_eq,getD_dropU,List.length_drop]
 constructor
 ·rintro ⟨h1,h2,h3⟩;exact ⟨by omega,h2,h3⟩
 ·rintro ⟨h1,h2,h3⟩;exact ⟨by omega,h2,h3⟩
set_option maxHeartbeats 2000000 in
theorem rsign_ok (s:List UInt8) (p:Nat) (hp:p<=s.length) (hl:s.length<=4611686018427387904):Pure Tryz.prog 8 [.str s,.int .i64 p] (.int .i64 (sigL (s.drop p):Nat)):=by
 intro σ
 refine a8 (by simp) ?_
 by_cases hlt:p<s.length
 ·have hlt':¬ (s.length:Int)<=p:=by omega
  have hne:s.drop p ≠ []:=by
   intro e
   have:=congrArg List.length e
   rw [List.length_drop] at this
   simp at this
   omega
  have hx : s[p]? = some (s[p]'hlt) := List.getElem?_eq_getElem hlt
  obtain ⟨c, hc⟩ : ∃ c, s[p]'hlt = c := ⟨_, rfl⟩
  rw [hc] at hx
  have hb0:((s.drop p).getD 0 0).toNat=c.toNat:=by rw [getD_dropU,List.getD_eq_getElem?_getD,Nat.add_zero,hx];rfl
  rw [sigL_N hne,hb0]
  have hcb:=u8_lt c
  have m1:=more_iff s p 1 128 191 hp
  have m2:=more_iff s p 2 128 191 hp
  have m3:=more_iff s p 3 128 191 hp
  have q1:=more_at s p 1 128 191 (by omega)
  have q2:=more_at s p 2 128 191 (by omega)
  have q3:=more_at s p 3 128 191 (by omega)
  have mm:=fun lo hi=>more_iff s p 1 lo hi hp
  have qq:=fun lo hi=>more_at s p 1 lo hi (by omega)
  generalize ((s.drop p).getD 1 0).toNat=b1 at *
  generalize ((s.drop p).getD 2 0).toNat=b2 at *
  generalize ((s.drop p).getD 3 0).toNat=b3 at *
  generalize (s.drop p).length=n at *
  obtain ⟨C,hC⟩:∃ C,c.toNat=C:=⟨_,rfl⟩
  rw [hC] at hcb ⊢
  have e1:((1:Nat):Int)=1:=rfl
  have e2:((2:Nat):Int)=2:=rfl
  have e3:((3:Nat):Int)=3:=rfl
  have e128:((128:Nat):Int)=128:=rfl
  have e191:((191:Nat):Int)=191:=rfl
  rw [e1,e128,e191] at q1
  rw [e2,e128,e191] at q2
  rw [e3,e128,e191] at q3
  simp only [e1] at qq
  generalize hM1:moreP s (p+1) 128 191=M1 at *
  generalize moreP s (p+2) 128 191=M2 at *
  generalize moreP s (p+3) 128 191=M3 at *
  obtain ⟨F,hF⟩:∃ F,F=ACode.wp Tryz.prog c8_47:=⟨_,rfl⟩
  have tail:∀ (a1:AFr) (lo hi:Nat) (T:Nat),(a1 0 = .str s/\a1 1 = .int .i64 p/\a1 5 = .int .i64 C/\a1 6 = .int .i64 lo/\a1 7 = .int .i64 hi) →
    T=(if 224<=C/\C<=239/\moreP s (p+1) lo hi=true/\M2=true then 3 else if 240<=C/\C<=244/\moreP s (p+1) lo hi=true/\M2=true/\M3=true then 4 else 0)->F (RetQ [.t 4] fun v σ'=>v = .int .i64 T/\σ'=σ) a1 σ:=by
   intro a1 lo hi T hf hT
   rw [hF]
   have q:=qq lo hi
   generalize moreP s (p+1) lo hi=M at *
   by_cases g1:224<=C
   ·have g1':(224:Int)<=C:=by omega
    by_cases g2:C<=239
    ·have g2':(C:Int)<=239:=by omega
     have g3':¬ (240:Int)<=C:=by omega
     simp (disch:=first|assumption|omega|(simp only [List.length_append,List.length_cons,List.length_nil];omega)) only [go_sem,reduceCtorEq,Nat.reduceEqDiff,Nat.reduceAdd,Nat.reduceSub,Nat.reduceMul,Nat.reduceLeDiff,Int.reduceLT,Int.reduceLE,Int.reduceEq,↓reduceIte,Int.reduceNeg,Int.reduceAdd,Int.reduceSub,Int.reduceMul,true_imp_iff,forall_const,Nat.mul_one,Int.reduceToNat,Nat.reducePow,Int.reducePow,Bool.true_and,Bool.false_and,Bool.and_false,hf,g1',g2']
     refine q.use ?_
     cases M with
     | false=>
       rw [if_neg (by simp),if_neg (by simp)] at hT
       subst hT
       simp (disch:=first|assumption|omega|(simp only [List.length_append,List.length_cons,List.length_nil];omega)) only [go_sem,reduceCtorEq,Nat.reduceEqDiff,Nat.reduceAdd,Nat.reduceSub,Nat.reduceMul,Nat.reduceLeDiff,Int.reduceLT,Int.reduceLE,Int.reduceEq,↓reduceIte,Int.reduceNeg,Int.reduceAdd,Int.reduceSub,Int.reduceMul,true_imp_iff,forall_const,Nat.mul_one,Int.reduceToNat,Nat.reducePow,Int.reducePow,Bool.true_and,Bool.false_and,Bool.and_false,hf,g3']
       exact retC_by (by repeat' (first|exact Drop.refl _|with_reducible refine Drop.off ?_ (by assumption))) (.refl _) ⟨rfl,rfl⟩
     | true=>
       simp (disch:=first|assumption|omega|(simp only [List.length_append,List.length_cons,List.length_nil];omega)) only [go_sem,reduceCtorEq,Nat.reduceEqDiff,Nat.reduceAdd,Nat.reduceSub,Nat.reduceMul,Nat.reduceLeDiff,Int.reduceLT,Int.reduceLE,Int.reduceEq,↓reduceIte,Int.reduceNeg,Int.reduceAdd,Int.reduceSub,Int.reduceMul,true_imp_iff,forall_const,Nat.mul_one,Int.reduceToNat,Nat.reducePow,Int.reducePow,Bool.true_and,Bool.false_and,Bool.and_false,hf]
       refine q2.use ?_
       cases M2 with
       | false=>
         rw [if_neg (by simp),if_neg (by simp)] at hT
         subst hT
         simp (disch:=first|assumption|omega|(simp only [List.length_append,List.length_cons,List.length_nil];omega)) only [go_sem,reduceCtorEq,Nat.reduceEqDiff,Nat.reduceAdd,Nat.reduceSub,Nat.reduceMul,Nat.reduceLeDiff,Int.reduceLT,Int.reduceLE,Int.reduceEq,↓reduceIte,Int.reduceNeg,Int.reduceAdd,Int.reduceSub,Int.reduceMul,true_imp_iff,forall_const,Nat.mul_one,Int.reduceToNat,Nat.reducePow,Int.reducePow,Bool.true_and,Bool.false_and,Bool.and_false,hf,g3']
         exact retC_by (by repeat' (first|exact Drop.refl _|with_reducible refine Drop.off ?_ (by assumption))) (.refl _) ⟨rfl,rfl⟩
       | true=>
         rw [if_pos ⟨g1,g2,rfl,rfl⟩] at hT
         subst hT
         simp (disch:=first|assumption|omega|(simp only [List.length_append,List.length_cons,List.length_nil];omega)) only [go_sem,reduceCtorEq,Nat.reduceEqDiff,Nat.reduceAdd,Nat.reduceSub,Nat.reduceMul,Nat.reduceLeDiff,Int.reduceLT,Int.reduceLE,Int.reduceEq,↓reduceIte,Int.reduceNeg,Int.reduceAdd,Int.reduceSub,Int.reduceMul,true_imp_iff,forall_const,Nat.mul_one,Int.reduceToNat,Nat.reducePow,Int.reducePow,Bool.true_and,Bool.false_and,Bool.and_false,hf]
         exact retC_by (by repeat' (first|exact Drop.refl _|with_reducible refine Drop.off ?_ (by assumption))) (.refl _) ⟨rfl,rfl⟩
    ·have g2':¬ (C:Int)<=239:=by omega
     have g3':(240:Int)<=C:=by omega
     rw [if_neg (fun h=>g2 h.2.1)] at hT
     by_cases g4:C<=244
     ·have g4':(C:Int)<=244:=by omega
      simp (disch:=first|assumption|omega|(simp only [List.length_append,List.length_cons,List.length_nil];omega)) only [go_sem,reduceCtorEq,Nat.reduceEqDiff,Nat.reduceAdd,Nat.reduceSub,Nat.reduceMul,Nat.reduceLeDiff,Int.reduceLT,Int.reduceLE,Int.reduceEq,↓reduceIte,Int.reduceNeg,Int.reduceAdd,Int.reduceSub,Int.reduceMul,true_imp_iff,forall_const,Nat.mul_one,Int.reduceToNat,Nat.reducePow,Int.reducePow,Bool.true_and,Bool.false_and,Bool.and_false,hf,g1',g2',g3',g4']
      refine q.use ?_
      cases M with
      | false=>
        rw [if_neg (by simp)] at hT
        subst hT
        simp (disch:=first|assumption|omega|(simp only [List.length_append,List.length_cons,List.length_nil];omega)) only [go_sem,reduceCtorEq,Nat.reduceEqDiff,Nat.reduceAdd,Nat.reduceSub,Nat.reduceMul,Nat.reduceLeDiff,Int.reduceLT,Int.reduceLE,Int.reduceEq,↓reduceIte,Int.reduceNeg,Int.reduceAdd,Int.reduceSub,Int.reduceMul,true_imp_iff,forall_const,Nat.mul_one,Int.reduceToNat,Nat.reducePow,Int.reducePow,Bool.true_and,Bool.false_and,Bool.and_false,hf]
        exact retC_by (by repeat' (first|exact Drop.refl _|with_reducible refine Drop.off ?_ (by assumption))) (.refl _) ⟨rfl,rfl⟩
      | true=>
        simp (disch:=first|assumption|omega|(simp only [List.length_append,List.length_cons,List.length_nil];omega)) only [go_sem,reduceCtorEq,Nat.reduceEqDiff,Nat.reduceAdd,Nat.reduceSub,Nat.reduceMul,Nat.reduceLeDiff,Int.reduceLT,Int.reduceLE,Int.reduceEq,↓reduceIte,Int.reduceNeg,Int.reduceAdd,Int.reduceSub,Int.reduceMul,true_imp_iff,forall_const,Nat.mul_one,Int.reduceToNat,Nat.reducePow,Int.reducePow,Bool.true_and,Bool.false_and,Bool.and_false,hf]
        refine q2.use ?_
        cases M2 with
        | false=>
          rw [if_neg (by simp)] at hT
          subst hT
          simp (disch:=first|assumption|omega|(simp only [List.length_append,List.length_cons,List.length_nil];omega)) only [go_sem,reduceCtorEq,Nat.reduceEqDiff,Nat.reduceAdd,Nat.reduceSub,Nat.reduceMul,Nat.reduceLeDiff,Int.reduceLT,Int.reduceLE,Int.reduceEq,↓reduceIte,Int.reduceNeg,Int.reduceAdd,Int.reduceSub,Int.reduceMul,true_imp_iff,forall_const,Nat.mul_one,Int.reduceToNat,Nat.reducePow,Int.reducePow,Bool.true_and,Bool.false_and,Bool.and_false,hf]
          exact retC_by (by repeat' (first|exact Drop.refl _|with_reducible refine Drop.off ?_ (by assumption))) (.refl _) ⟨rfl,rfl⟩
        | true=>
          simp (disch:=first|assumption|omega|(simp only [List.length_append,List.length_cons,List.length_nil];omega)) only [go_sem,reduceCtorEq,Nat.reduceEqDiff,Nat.reduceAdd,Nat.reduceSub,Nat.reduceMul,Nat.reduceLeDiff,Int.reduceLT,Int.reduceLE,Int.reduceEq,↓reduceIte,Int.reduceNeg,Int.reduceAdd,Int.reduceSub,Int.reduceMul,true_imp_iff,forall_const,Nat.mul_one,Int.reduceToNat,Nat.reducePow,Int.reducePow,Bool.true_and,Bool.false_and,Bool.and_false,hf]
          refine q3.use ?_
          cases M3 with
          | false=>
            rw [if_neg (by simp)] at hT
            subst hT
            simp (disch:=first|assumption|omega|(simp only [List.length_append,List.length_cons,List.length_nil];omega)) only [go_sem,reduceCtorEq,Nat.reduceEqDiff,Nat.reduceAdd,Nat.reduceSub,Nat.reduceMul,Nat.reduceLeDiff,Int.reduceLT,Int.reduceLE,Int.reduceEq,↓reduceIte,Int.reduceNeg,Int.reduceAdd,Int.reduceSub,Int.reduceMul,true_imp_iff,forall_const,Nat.mul_one,Int.reduceToNat,Nat.reducePow,Int.reducePow,Bool.true_and,Bool.false_and,Bool.and_false,hf]
            exact retC_by (by repeat' (first|exact Drop.refl _|with_reducible refine Drop.off ?_ (by assumption))) (.refl _) ⟨rfl,rfl⟩
          | true=>
            rw [if_pos ⟨by omega,g4,rfl,rfl,rfl⟩] at hT
            subst hT
            simp (disch:=first|assumption|omega|(simp only [List.length_append,List.length_cons,List.length_nil];omega)) only [go_sem,reduceCtorEq,Nat.reduceEqDiff,Nat.reduceAdd,Nat.reduceSub,Nat.reduceMul,Nat.reduceLeDiff,Int.reduceLT,Int.reduceLE,Int.reduceEq,↓reduceIte,Int.reduceNeg,Int.reduceAdd,Int.reduceSub,Int.reduceMul,true_imp_iff,forall_const,Nat.mul_one,Int.reduceToNat,Nat.reducePow,Int.reducePow,Bool.true_and,Bool.false_and,Bool.and_false,hf]
            exact retC_by (by repeat' (first|exact Drop.refl _|with_reducible refine Drop.off ?_ (by assumption))) (.refl _) ⟨rfl,rfl⟩
     ·have g4':¬ (C:Int)<=244:=by omega
      rw [if_neg (fun h=>g4 h.2.1)] at hT
      subst hT
      simp (disch:=first|assumption|omega|(simp only [List.length_append,List.length_cons,List.length_nil];omega)) only [go_sem,reduceCtorEq,Nat.reduceEqDiff,Nat.reduceAdd,Nat.reduceSub,Nat.reduceMul,Nat.reduceLeDiff,Int.reduceLT,Int.reduceLE,Int.reduceEq,↓reduceIte,Int.reduceNeg,Int.reduceAdd,Int.reduceSub,Int.reduceMul,true_imp_iff,forall_const,Nat.mul_one,Int.reduceToNat,Nat.reducePow,Int.reducePow,Bool.true_and,Bool.false_and,Bool.and_false,hf,g1',g2',g3',g4']
      exact retC_by (by repeat' (first|exact Drop.refl _|with_reducible refine Drop.off ?_ (by assumption))) (.refl _) ⟨rfl,rfl⟩
   ·have g1':¬ (224:Int)<=C:=by omega
    have g3':¬ (240:Int)<=C:=by omega
    rw [if_neg (fun h=>g1 h.1),if_neg (fun h=>by omega)] at hT
    subst hT
    simp (disch:=first|assumption|omega|(simp only [List.length_append,List.length_cons,List.length_nil];omega)) only [go_sem,reduceCtorEq,Nat.reduceEqDiff,Nat.reduceAdd,Nat.reduceSub,Nat.reduceMul,Nat.reduceLeDiff,Int.reduceLT,Int.reduceLE,Int.reduceEq,↓reduceIte,Int.reduceNeg,Int.reduceAdd,Int.reduceSub,Int.reduceMul,true_imp_iff,forall_const,Nat.mul_one,Int.reduceToNat,Nat.reducePow,Int.reducePow,Bool.true_and,Bool.false_and,Bool.and_false,hf,g1',g3']
    exact retC_by (by repeat' (first|exact Drop.refl _|with_reducible refine Drop.off ?_ (by assumption))) (.refl _) ⟨rfl,rfl⟩
  have hCw:IntKind.i64.wrap (C:Int)=C:=by rw [IntKind.wrap_i64];omega
  by_cases c1:C<128
  ·have c1':(C:Int)<128:=by omega
   unfold sigN
   rw [if_pos c1]
   simp (disch:=first|assumption|omega|(simp only [List.length_append,List.length_cons,List.length_nil];omega)) only [go_sem,reduceCtorEq,Nat.reduceEqDiff,Nat.reduceAdd,Nat.reduceSub,Nat.reduceMul,Nat.reduceLeDiff,Int.reduceLT,Int.reduceLE,Int.reduceEq,↓reduceIte,Int.reduceNeg,Int.reduceAdd,Int.reduceSub,Int.reduceMul,true_imp_iff,forall_const,Nat.mul_one,Int.reduceToNat,Nat.reducePow,Int.reducePow,Bool.true_and,Bool.false_and,Bool.and_false,hlt',hx,hC,hCw,c1',←hF]
   exact retC_by (by repeat' (first|exact Drop.refl _|with_reducible refine Drop.off ?_ (by assumption))) (.refl _) ⟨rfl,rfl⟩
  have c1':¬ (C:Int)<128:=by omega
  have step2:∀ (a1:AFr),¬ (194<=C/\C<=223/\M1=true)->(a1 0 = .str s/\a1 1 = .int .i64 p/\a1 5 = .int .i64 C)->ACode.wp Tryz.prog c8_52 (RetQ [.t 4] fun v σ'=>v = .int .i64 (sigN n C b1 b2 b3:Nat)/\σ'=σ) a1 σ:=by
   intro a1 hno hf
   have fold:∀ lo hi:Nat,lo=(if C=224 then 160 else if C=240 then 144 else 128)->hi=(if C=237 then 159 else if C=244 then 143 else 191)->sigN n C b1 b2 b3=(if 224<=C/\C<=239/\moreP s (p+1) lo hi=true/\M2=true then 3 else if 240<=C/\C<=244/\moreP s (p+1) lo hi=true/\M2=true/\M3=true then 4 else 0):=by
    intro lo hi hlo hhi
    unfold sigN
    dsimp only
    rw [<-hlo,← hhi,if_neg c1,if_neg (fun h=>hno ⟨h.1,h.2.1,m1.2 h.2.2⟩)]
    simp only [mm lo hi,m2,m3]
   by_cases k1:C=224
   ·have k1':(C:Int)=224:=by omega
    simp (disch:=first|assumption|omega|(simp only [List.length_append,List.length_cons,List.length_nil];omega)) only [go_sem,reduceCtorEq,Nat.reduceEqDiff,Nat.reduceAdd,Nat.reduceSub,Nat.reduceMul,Nat.reduceLeDiff,Int.reduceLT,Int.reduceLE,Int.reduceEq,↓reduceIte,Int.reduceNeg,Int.reduceAdd,Int.reduceSub,Int.reduceMul,true_imp_iff,forall_const,Nat.mul_one,Int.reduceToNat,Nat.reducePow,Int.reducePow,Bool.true_and,Bool.false_and,Bool.and_false,hf,k1',←hF]
    subst k1
    refine tail _ 160 191 _ ?_ (fold 160 191 (by simp) (by simp))
    simp (disch:=first|assumption|omega|(simp only [List.length_append,List.length_cons,List.length_nil];omega)) only [go_sem,reduceCtorEq,Nat.reduceEqDiff,Nat.reduceAdd,Nat.reduceSub,Nat.reduceMul,Nat.reduceLeDiff,Int.reduceLT,Int.reduceLE,Int.reduceEq,↓reduceIte,Int.reduceNeg,Int.reduceAdd,Int.reduceSub,Int.reduceMul,true_imp_iff,forall_const,Nat.mul_one,Int.reduceToNat,Nat.reducePow,Int.reducePow,Bool.true_and,Bool.false_and,Bool.and_false,hf]
   have k1':¬ (C:Int)=224:=by omega
   by_cases k2:C=240
   ·have k2':(C:Int)=240:=by omega
    simp (disch:=first|assumption|omega|(simp only [List.length_append,List.length_cons,List.length_nil];omega)) only [go_sem,reduceCtorEq,Nat.reduceEqDiff,Nat.reduceAdd,Nat.reduceSub,Nat.reduceMul,Nat.reduceLeDiff,Int.reduceLT,Int.reduceLE,Int.reduceEq,↓reduceIte,Int.reduceNeg,Int.reduceAdd,Int.reduceSub,Int.reduceMul,true_imp_iff,forall_const,Nat.mul_one,Int.reduceToNat,Nat.reducePow,Int.reducePow,Bool.true_and,Bool.false_and,Bool.and_false,hf,k1',k2',←hF]
    subst k2
    refine tail _ 144 191 _ ?_ (fold 144 191 (by simp) (by simp))
    simp (disch:=first|assumption|omega|(simp only [List.length_append,List.length_cons,List.length_nil];omega)) only [go_sem,reduceCtorEq,Nat.reduceEqDiff,Nat.reduceAdd,Nat.reduceSub,Nat.reduceMul,Nat.reduceLeDiff,Int.reduceLT,Int.reduceLE,Int.reduceEq,↓reduceIte,Int.reduceNeg,Int.reduceAdd,Int.reduceSub,Int.reduceMul,true_imp_iff,forall_const,Nat.mul_one,Int.reduceToNat,Nat.reducePow,Int.reducePow,Bool.true_and,Bool.false_and,Bool.and_false,hf]
   have k2':¬ (C:Int)=240:=by omega
   by_cases k3:C=237
   ·have k3':(C:Int)=237:=by omega
    simp (disch:=first|assumption|omega|(simp only [List.length_append,List.length_cons,List.length_nil];omega)) only [go_sem,reduceCtorEq,Nat.reduceEqDiff,Nat.reduceAdd,Nat.reduceSub,Nat.reduceMul,Nat.reduceLeDiff,Int.reduceLT,Int.reduceLE,Int.reduceEq,↓reduceIte,Int.reduceNeg,Int.reduceAdd,Int.reduceSub,Int.reduceMul,true_imp_iff,forall_const,Nat.mul_one,Int.reduceToNat,Nat.reducePow,Int.reducePow,Bool.true_and,Bool.false_and,Bool.and_false,hf,k1',k2',k3',←hF]
    subst k3
    refine tail _ 128 159 _ ?_ (fold 128 159 (by simp) (by simp))
    simp (disch:=first|assumption|omega|(simp only [List.length_append,List.length_cons,List.length_nil];omega)) only [go_sem,reduceCtorEq,Nat.reduceEqDiff,Nat.reduceAdd,Nat.reduceSub,Nat.reduceMul,Nat.reduceLeDiff,Int.reduceLT,Int.reduceLE,Int.reduceEq,↓reduceIte,Int.reduceNeg,Int.reduceAdd,Int.reduceSub,Int.reduceMul,true_imp_iff,forall_const,Nat.mul_one,Int.reduceToNat,Nat.reducePow,Int.reducePow,Bool.true_and,Bool.false_and,Bool.and_false,hf]
   have k3':¬ (C:Int)=237:=by omega
   by_cases k4:C=244
   ·have k4':(C:Int)=244:=by omega
    simp (disch:=first|assumption|omega|(simp only [List.length_append,List.length_cons,List.length_nil];omega)) only [go_sem,reduceCtorEq,Nat.reduceEqDiff,Nat.reduceAdd,Nat.reduceSub,Nat.reduceMul,Nat.reduceLeDiff,Int.reduceLT,Int.reduceLE,Int.reduceEq,↓reduceIte,Int.reduceNeg,Int.reduceAdd,Int.reduceSub,Int.reduceMul,true_imp_iff,forall_const,Nat.mul_one,Int.reduceToNat,Nat.reducePow,Int.reducePow,Bool.true_and,Bool.false_and,Bool.and_false,hf,k1',k2',k3',k4',←hF]
    subst k4
    refine tail _ 128 143 _ ?_ (fold 128 143 (by simp) (by simp))
    simp (disch:=first|assumption|omega|(simp only [List.length_append,List.length_cons,List.length_nil];omega)) only [go_sem,reduceCtorEq,Nat.reduceEqDiff,Nat.reduceAdd,Nat.reduceSub,Nat.reduceMul,Nat.reduceLeDiff,Int.reduceLT,Int.reduceLE,Int.reduceEq,↓reduceIte,Int.reduceNeg,Int.reduceAdd,Int.reduceSub,Int.reduceMul,true_imp_iff,forall_const,Nat.mul_one,Int.reduceToNat,Nat.reducePow,Int.reducePow,Bool.true_and,Bool.false_and,Bool.and_false,hf]
   have k4':¬ (C:Int)=244:=by omega
   simp (disch:=first|assumption|omega|(simp only [List.length_append,List.length_cons,List.length_nil];omega)) only [go_sem,reduceCtorEq,Nat.reduceEqDiff,Nat.reduceAdd,Nat.reduceSub,Nat.reduceMul,Nat.reduceLeDiff,Int.reduceLT,Int.reduceLE,Int.reduceEq,↓reduceIte,Int.reduceNeg,Int.reduceAdd,Int.reduceSub,Int.reduceMul,true_imp_iff,forall_const,Nat.mul_one,Int.reduceToNat,Nat.reducePow,Int.reducePow,Bool.true_and,Bool.false_and,Bool.and_false,hf,k1',k2',k3',k4',←hF]
   refine tail _ 128 191 _ ?_ (fold 128 191 (by rw [if_neg k1,if_neg k2]) (by rw [if_neg k3,if_neg k4]))
   simp (disch:=first|assumption|omega|(simp only [List.length_append,List.length_cons,List.length_nil];omega)) only [go_sem,reduceCtorEq,Nat.reduceEqDiff,Nat.reduceAdd,Nat.reduceSub,Nat.reduceMul,Nat.reduceLeDiff,Int.reduceLT,Int.reduceLE,Int.reduceEq,↓reduceIte,Int.reduceNeg,Int.reduceAdd,Int.reduceSub,Int.reduceMul,true_imp_iff,forall_const,Nat.mul_one,Int.reduceToNat,Nat.reducePow,Int.reducePow,Bool.true_and,Bool.false_and,Bool.and_false,hf]
  obtain ⟨G,hG⟩:∃ G,G=ACode.wp Tryz.prog c8_52:=⟨_,rfl⟩
  rw [<-hG] at step2
  by_cases c2:194<=C
  ·have c2':(194:Int)<=C:=by omega
   by_cases c3:C<=223
   ·have c3':(C:Int)<=223:=by omega
    simp (disch:=first|assumption|omega|(simp only [List.length_append,List.length_cons,List.length_nil];omega)) only [go_sem,reduceCtorEq,Nat.reduceEqDiff,Nat.reduceAdd,Nat.reduceSub,Nat.reduceMul,Nat.reduceLeDiff,Int.reduceLT,Int.reduceLE,Int.reduceEq,↓reduceIte,Int.reduceNeg,Int.reduceAdd,Int.reduceSub,Int.reduceMul,true_imp_iff,forall_const,Nat.mul_one,Int.reduceToNat,Nat.reducePow,Int.reducePow,Bool.true_and,Bool.false_and,Bool.and_false,hlt',hx,hC,hCw,c1',c2',c3',←hG]
    refine q1.use ?_
    cases M1 with
    | true=>
      unfold sigN
      dsimp only
      rw [if_neg c1,if_pos ⟨c2,c3,m1.1 rfl⟩]
      simp (disch:=first|assumption|omega|(simp only [List.length_append,List.length_cons,List.length_nil];omega)) only [go_sem,reduceCtorEq,Nat.reduceEqDiff,Nat.reduceAdd,Nat.reduceSub,Nat.reduceMul,Nat.reduceLeDiff,Int.reduceLT,Int.reduceLE,Int.reduceEq,↓reduceIte,Int.reduceNeg,Int.reduceAdd,Int.reduceSub,Int.reduceMul,true_imp_iff,forall_const,Nat.mul_one,Int.reduceToNat,Nat.reducePow,Int.reducePow,Bool.true_and,Bool.false_and,Bool.and_false]
      exact retC_by (by repeat' (first|exact Drop.refl _|with_reducible refine Drop.off ?_ (by assumption))) (.refl _) ⟨rfl,rfl⟩
    | false=>
      simp (disch:=first|assumption|omega|(simp only [List.length_append,List.length_cons,List.length_nil];omega)) only [go_sem,reduceCtorEq,Nat.reduceEqDiff,Nat.reduceAdd,Nat.reduceSub,Nat.reduceMul,Nat.reduceLeDiff,Int.reduceLT,Int.reduceLE,Int.reduceEq,↓reduceIte,Int.reduceNeg,Int.reduceAdd,Int.reduceSub,Int.reduceMul,true_imp_iff,forall_const,Nat.mul_one,Int.reduceToNat,Nat.reducePow,Int.reducePow,Bool.true_and,Bool.false_and,Bool.and_false,←hG]
      refine step2 _ (fun h=>by cases h.2.2) ?_
      simp (disch:=first|assumption|omega|(simp only [List.length_append,List.length_cons,List.length_nil];omega)) only [go_sem,reduceCtorEq,Nat.reduceEqDiff,Nat.reduceAdd,Nat.reduceSub,Nat.reduceMul,Nat.reduceLeDiff,Int.reduceLT,Int.reduceLE,Int.reduceEq,↓reduceIte,Int.reduceNeg,Int.reduceAdd,Int.reduceSub,Int.reduceMul,true_imp_iff,forall_const,Nat.mul_one,Int.reduceToNat,Nat.reducePow,Int.reducePow,Bool.true_and,Bool.false_and,Bool.and_false]
   ·have c3':¬ (C:Int)<=223:=by omega
    simp (disch:=first|assumption|omega|(simp only [List.length_append,List.length_cons,List.length_nil];omega)) only [go_sem,reduceCtorEq,Nat.reduceEqDiff,Nat.reduceAdd,Nat.reduceSub,Nat.reduceMul,Nat.reduceLeDiff,Int.reduceLT,Int.reduceLE,Int.reduceEq,↓reduceIte,Int.reduceNeg,Int.reduceAdd,Int.reduceSub,Int.reduceMul,true_imp_iff,forall_const,Nat.mul_one,Int.reduceToNat,Nat.reducePow,Int.reducePow,Bool.true_and,Bool.false_and,Bool.and_false,hlt',hx,hC,hCw,c1',c2',c3',←hG]
    refine step2 _ (fun h=>c3 h.2.1) ?_
    simp (disch:=first|assumption|omega|(simp only [List.length_append,List.length_cons,List.length_nil];omega)) only [go_sem,reduceCtorEq,Nat.reduceEqDiff,Nat.reduceAdd,Nat.reduceSub,Nat.reduceMul,Nat.reduceLeDiff,Int.reduceLT,Int.reduceLE,Int.reduceEq,↓reduceIte,Int.reduceNeg,Int.reduceAdd,Int.reduceSub,Int.reduceMul,true_imp_iff,forall_const,Nat.mul_one,Int.reduceToNat,Nat.reducePow,Int.reducePow,Bool.true_and,Bool.false_and,Bool.and_false]
  ·have c2':¬ (194:Int)<=C:=by omega
   simp (disch:=first|assumption|omega|(simp only [List.length_append,List.length_cons,List.length_nil];omega)) only [go_sem,reduceCtorEq,Nat.reduceEqDiff,Nat.reduceAdd,Nat.reduceSub,Nat.reduceMul,Nat.reduceLeDiff,Int.reduceLT,Int.reduceLE,Int.reduceEq,↓reduceIte,Int.reduceNeg,Int.reduceAdd,Int.reduceSub,Int.reduceMul,true_imp_iff,forall_const,Nat.mul_one,Int.reduceToNat,Nat.reducePow,Int.reducePow,Bool.true_and,Bool.false_and,Bool.and_false,hlt',hx,hC,hCw,c1',c2',←hG]
   refine step2 _ (fun h=>c2 h.1) ?_
   simp (disch:=first|assumption|omega|(simp only [List.length_append,List.length_cons,List.length_nil];omega)) only [go_sem,reduceCtorEq,Nat.reduceEqDiff,Nat.reduceAdd,Nat.reduceSub,Nat.reduceMul,Nat.reduceLeDiff,Int.reduceLT,Int.reduceLE,Int.reduceEq,↓reduceIte,Int.reduceNeg,Int.reduceAdd,Int.reduceSub,Int.reduceMul,true_imp_iff,forall_const,Nat.mul_one,Int.reduceToNat,Nat.reducePow,Int.reducePow,Bool.true_and,Bool.false_and,Bool.and_false]
 ·have hlt':(s.length:Int)<=p:=by omega
  rw [List.drop_eq_nil_of_le (by omega)]
  simp (disch:=first|assumption|omega|(simp only [List.length_append,List.length_cons,List.length_nil];omega)) only [go_sem,reduceCtorEq,Nat.reduceEqDiff,Nat.reduceAdd,Nat.reduceSub,Nat.reduceMul,Nat.reduceLeDiff,Int.reduceLT,Int.reduceLE,Int.reduceEq,↓reduceIte,Int.reduceNeg,Int.reduceAdd,Int.reduceSub,Int.reduceMul,true_imp_iff,forall_const,Nat.mul_one,Int.reduceToNat,Nat.reducePow,Int.reducePow,Bool.true_and,Bool.false_and,Bool.and_false,hlt']
  exact retC_by (by repeat' (first|exact Drop.refl _|with_reducible refine Drop.off ?_ (by assumption))) (.refl _) ⟨rfl,rfl⟩
theorem sigL_bad {r:List UInt8} (h0:r ≠ []) (h:sigL r=0):sgT r=none:=by
 unfold sigL at h
 rw [if_neg h0] at h
 by_cases hb:decodeL r=(65533,1)
 ·exact sgT_bad h0 hb
 ·rw [if_neg hb] at h
  have:=decodeL_width r
  omega
theorem sigL_step {r:List UInt8} (h0:r ≠ []) (h:sigL r≠0):sgT r=(sgT (r.drop (sigL r))).map (· + 1)/\sigL r<=r.length:=by
 unfold sigL at h ⊢
 rw [if_neg h0] at h ⊢
 by_cases hb:decodeL r=(65533,1)
 ·rw [if_pos hb] at h;exact absurd rfl h
 ·rw [if_neg hb]
  exact ⟨sgT_step h0 hb,decodeL_le r h0⟩
set_option maxHeartbeats 1000000 in
theorem rsigns_ok (s:List UInt8) (hl:s.length<=4611686018427387904):Pure Tryz.prog 5 [.str s] (sgAV s):=by
 intro σ
 refine a5 (by simp) ?_
 obtain ⟨R,hR⟩:∃ R,sgT s=R:=⟨_,rfl⟩
 unfold sgAV
 rw [hR]
 simp (disch:=first|assumption|omega|(simp only [List.length_append,List.length_cons,List.length_nil];omega)) only [go_sem,reduceCtorEq,Nat.reduceEqDiff,Nat.reduceAdd,Nat.reduceSub,Nat.reduceMul,Nat.reduceLeDiff,Int.reduceLT,Int.reduceLE,Int.reduceEq,↓reduceIte,Int.reduceNeg,Int.reduceAdd,Int.reduceSub,Int.reduceMul,true_imp_iff,forall_const,Nat.mul_one,Int.reduceToNat,Nat.reducePow,Int.reducePow,Bool.true_and,Bool.false_and,Bool.and_false]
 refine wp_loop_on (fun (p:Nat) a s2=>p<=s.length/\(∃ n:Nat,R=(sgT (s.drop p)).map (· + n)/\n<=p/\a 4 = .int .i64 n)/\(a 0 = .str s/\a 5 = .int .i64 p)/\s2=σ) (fun p=>s.length-p) 0 ⟨Nat.zero_le _,⟨0,?_,Nat.le_refl _,?_⟩,?_,rfl⟩ ?_
 ·rw [<-hR,List.drop_zero];cases sgT s<;>rfl
 ·simp (disch:=first|assumption|omega|(simp only [List.length_append,List.length_cons,List.length_nil];omega)) only [go_sem,reduceCtorEq,Nat.reduceEqDiff,Nat.reduceAdd,Nat.reduceSub,Nat.reduceMul,Nat.reduceLeDiff,Int.reduceLT,Int.reduceLE,Int.reduceEq,↓reduceIte,Int.reduceNeg,Int.reduceAdd,Int.reduceSub,Int.reduceMul,true_imp_iff,forall_const,Nat.mul_one,Int.reduceToNat,Nat.reducePow,Int.reducePow,Bool.true_and,Bool.false_and,Bool.and_false]
 ·simp (disch:=first|assumption|omega|(simp only [List.length_append,List.length_cons,List.length_nil];omega)) only [go_sem,reduceCtorEq,Nat.reduceEqDiff,Nat.reduceAdd,Nat.reduceSub,Nat.reduceMul,Nat.reduceLeDiff,Int.reduceLT,Int.reduceLE,Int.reduceEq,↓reduceIte,Int.reduceNeg,Int.reduceAdd,Int.reduceSub,Int.reduceMul,true_imp_iff,forall_const,Nat.mul_one,Int.reduceToNat,Nat.reducePow,Int.reducePow,Bool.true_and,Bool.false_and,Bool.and_false]
 rintro p a s2 ⟨hp,⟨n,hm,hn,h4⟩,hf,rfl⟩
 by_cases hlt:p<s.length
 ·have hlt':(p:Int)<s.length:=by omega
  have hne:s.drop p ≠ []:=by
   intro e
   have:=congrArg List.length e
   rw [List.length_drop] at this
   simp at this
   omega
  have hS:=rsign_ok s p hp hl
  have hbad:=sigL_bad hne
  have hstep:=sigL_step hne
  rw [List.length_drop] at hstep
  generalize sigL (s.drop p)=w at *
  by_cases hw:w=0
  ·have hw':(w:Int)=0:=by omega
   rw [hbad hw] at hm
   simp only [Option.map_none] at hm
   subst hm
   simp (disch:=first|assumption|omega|(simp only [List.length_append,List.length_cons,List.length_nil];omega)) only [go_sem,reduceCtorEq,Nat.reduceEqDiff,Nat.reduceAdd,Nat.reduceSub,Nat.reduceMul,Nat.reduceLeDiff,Int.reduceLT,Int.reduceLE,Int.reduceEq,↓reduceIte,Int.reduceNeg,Int.reduceAdd,Int.reduceSub,Int.reduceMul,true_imp_iff,forall_const,Nat.mul_one,Int.reduceToNat,Nat.reducePow,Int.reducePow,Bool.true_and,Bool.false_and,Bool.and_false,hf,h4,hlt']
   refine hS.use ?_
   simp (disch:=first|assumption|omega|(simp only [List.length_append,List.length_cons,List.length_nil];omega)) only [go_sem,reduceCtorEq,Nat.reduceEqDiff,Nat.reduceAdd,Nat.reduceSub,Nat.reduceMul,Nat.reduceLeDiff,Int.reduceLT,Int.reduceLE,Int.reduceEq,↓reduceIte,Int.reduceNeg,Int.reduceAdd,Int.reduceSub,Int.reduceMul,true_imp_iff,forall_const,Nat.mul_one,Int.reduceToNat,Nat.reducePow,Int.reducePow,Bool.true_and,Bool.false_and,Bool.and_false,hw']
   exact retC_by (by repeat' (first|exact Drop.refl _|with_reducible refine Drop.off ?_ (by assumption))) (.refl _) ⟨rfl,rfl⟩
  ·have hw':¬ (w:Int)=0:=by omega
   obtain ⟨h1,h2⟩:=hstep hw
   rw [h1,List.drop_drop,Option.map_map] at hm
   simp (disch:=first|assumption|omega|(simp only [List.length_append,List.length_cons,List.length_nil];omega)) only [go_sem,reduceCtorEq,Nat.reduceEqDiff,Nat.reduceAdd,Nat.reduceSub,Nat.reduceMul,Nat.reduceLeDiff,Int.reduceLT,Int.reduceLE,Int.reduceEq,↓reduceIte,Int.reduceNeg,Int.reduceAdd,Int.reduceSub,Int.reduceMul,true_imp_iff,forall_const,Nat.mul_one,Int.reduceToNat,Nat.reducePow,Int.reducePow,Bool.true_and,Bool.false_and,Bool.and_false,hf,h4,hlt']
   refine hS.use ?_
   simp (disch:=first|assumption|omega|(simp only [List.length_append,List.length_cons,List.length_nil];omega)) only [go_sem,reduceCtorEq,Nat.reduceEqDiff,Nat.reduceAdd,Nat.reduceSub,Nat.reduceMul,Nat.reduceLeDiff,Int.reduceLT,Int.reduceLE,Int.reduceEq,↓reduceIte,Int.reduceNeg,Int.reduceAdd,Int.reduceSub,Int.reduceMul,true_imp_iff,forall_const,Nat.mul_one,Int.reduceToNat,Nat.reducePow,Int.reducePow,Bool.true_and,Bool.false_and,Bool.and_false,hf,h4,hw']
   refine ⟨p+w,by omega,by omega,⟨n+1,?_,by omega,rfl⟩,rfl⟩
   rw [hm]
   congr 1
   funext x
   simp only [Function.comp]
   omega
 ·have hlt':¬ (p:Int)<s.length:=by omega
  rw [List.drop_eq_nil_of_le (by omega),sgT_nil] at hm
  simp only [Option.map_some,Nat.zero_add] at hm
  subst hm
  simp (disch:=first|assumption|omega|(simp only [List.length_append,List.length_cons,List.length_nil];omega)) only [go_sem,reduceCtorEq,Nat.reduceEqDiff,Nat.reduceAdd,Nat.reduceSub,Nat.reduceMul,Nat.reduceLeDiff,Int.reduceLT,Int.reduceLE,Int.reduceEq,↓reduceIte,Int.reduceNeg,Int.reduceAdd,Int.reduceSub,Int.reduceMul,true_imp_iff,forall_const,Nat.mul_one,Int.reduceToNat,Nat.reducePow,Int.reducePow,Bool.true_and,Bool.false_and,Bool.and_false,hf,h4,hlt']
  exact retC_by (by repeat' (first|exact Drop.refl _|with_reducible refine Drop.off ?_ (by assumption))) (.refl _) ⟨rfl,rfl⟩
end Go.A
namespace Go.A
open Go.Proofs Go.Lib
set_option maxHeartbeats 1000000 in
theorem signs_ok {σ:ASt} (h:U8 σ) (s:List UInt8) (hs:s.length<=4611686018427387904):ACalls Tryz.prog 38 [.str s] σ fun v σ'=>v=sgAV s/\σ'=σ:=by
 refine a38 (by simp) ?_
 obtain ⟨R,hR⟩:∃ R,sgT s=R:=⟨_,rfl⟩
 unfold sgAV
 rw [hR]
 obtain ⟨F,hF⟩:∃ F,F=ACode.wp Tryz.prog c38_26:=⟨_,rfl⟩
 simp (disch:=first|assumption|omega|(simp only [List.length_append,List.length_cons,List.length_nil];omega)) only [go_sem,reduceCtorEq,Nat.reduceEqDiff,Nat.reduceAdd,Nat.reduceSub,Nat.reduceMul,Nat.reduceLeDiff,Int.reduceLT,Int.reduceLE,Int.reduceEq,↓reduceIte,Int.reduceNeg,Int.reduceAdd,Int.reduceSub,Int.reduceMul,true_imp_iff,forall_const,Nat.mul_one,Int.reduceToNat,Nat.reducePow,Int.reducePow,Bool.true_and,Bool.false_and,Bool.and_false,←hF]
 refine fun b hb=>?_
 simp (disch:=first|assumption|omega|(simp only [List.length_append,List.length_cons,List.length_nil];omega)) only [go_sem,reduceCtorEq,Nat.reduceEqDiff,Nat.reduceAdd,Nat.reduceSub,Nat.reduceMul,Nat.reduceLeDiff,Int.reduceLT,Int.reduceLE,Int.reduceEq,↓reduceIte,Int.reduceNeg,Int.reduceAdd,Int.reduceSub,Int.reduceMul,true_imp_iff,forall_const,Nat.mul_one,Int.reduceToNat,Nat.reducePow,Int.reducePow,Bool.true_and,Bool.false_and,Bool.and_false,←hF]
 refine wp_loop_by (fun (p:Nat) a σ'=>p<=s.length/\(∃ n:Nat,R=(sgT (s.drop p)).map (· + n)/\n<=p/\a 4 = .int .i64 n)/\(a 0 = .str s/\a 10 = .ptr b 0)/\σ'=σ.set b (some (.iter s p))) (fun p=>s.length-p) 0 (Dr.now ⟨Nat.zero_le _,⟨0,?_,Nat.le_refl _,?_⟩,?_,rfl⟩) ?_
 ·rw [<-hR,List.drop_zero];cases sgT s<;>rfl
 ·simp (disch:=first|assumption|omega|(simp only [List.length_append,List.length_cons,List.length_nil];omega)) only [go_sem,reduceCtorEq,Nat.reduceEqDiff,Nat.reduceAdd,Nat.reduceSub,Nat.reduceMul,Nat.reduceLeDiff,Int.reduceLT,Int.reduceLE,Int.reduceEq,↓reduceIte,Int.reduceNeg,Int.reduceAdd,Int.reduceSub,Int.reduceMul,true_imp_iff,forall_const,Nat.mul_one,Int.reduceToNat,Nat.reducePow,Int.reducePow,Bool.true_and,Bool.false_and,Bool.and_false]
 ·simp (disch:=first|assumption|omega|(simp only [List.length_append,List.length_cons,List.length_nil];omega)) only [go_sem,reduceCtorEq,Nat.reduceEqDiff,Nat.reduceAdd,Nat.reduceSub,Nat.reduceMul,Nat.reduceLeDiff,Int.reduceLT,Int.reduceLE,Int.reduceEq,↓reduceIte,Int.reduceNeg,Int.reduceAdd,Int.reduceSub,Int.reduceMul,true_imp_iff,forall_const,Nat.mul_one,Int.reduceToNat,Nat.reducePow,Int.reducePow,Bool.true_and,Bool.false_and,Bool.and_false]
 rintro p a σ1 ⟨hp,⟨n,hm,hn,h4⟩,hf,rfl⟩
 by_cases hlt:p<s.length
 ·have hlt':(p:Int)<s.length:=by omega
  have hne:s.drop p ≠ []:=by
   intro e
   have:=congrArg List.length e
   rw [List.length_drop] at this
   simp at this
   omega
  obtain ⟨⟨r,w⟩,hD⟩:∃ D,decodeL (s.drop p)=D:=⟨_,rfl⟩
  have hD2:Utf8.decode ⟨⟨s⟩⟩ p=(r,w):=by rw [<-hD];exact (decodeL_drop ⟨⟨s⟩⟩ p).symm
  have hw:=decodeL_width (s.drop p)
  have hwle:=decodeL_le (s.drop p) hne
  have hrb:=decodeL_rune (s.drop p)
  rw [List.length_drop] at hwle
  rw [hD] at hw hwle hrb
  dsimp only at hw hwle hrb
  by_cases hr:r=65533
  ·have hr':(r:Int)=65533:=by omega
   have hdc:=dec_ok (h.set hb (r:=some (.iter s (p+w)))) hne
   rw [hD] at hdc
   by_cases hw1:w=1
   ·have hbad:=sgT_bad hne (by rw [hD,hr,hw1])
    rw [hbad] at hm
    simp only [Option.map_none] at hm
    subst hm
    subst hw1
    have e1:((1:Nat):Int)=1:=rfl
    rw [e1] at hdc
    simp (disch:=first|assumption|omega|(simp only [List.length_append,List.length_cons,List.length_nil];omega)) only [go_sem,reduceCtorEq,Nat.reduceEqDiff,Nat.reduceAdd,Nat.reduceSub,Nat.reduceMul,Nat.reduceLeDiff,Int.reduceLT,Int.reduceLE,Int.reduceEq,↓reduceIte,Int.reduceNeg,Int.reduceAdd,Int.reduceSub,Int.reduceMul,true_imp_iff,forall_const,Nat.mul_one,Int.reduceToNat,Nat.reducePow,Int.reducePow,Bool.true_and,Bool.false_and,Bool.and_false,hf,h4,←hF]
    refine nxt_more hlt ?_
    rw [hD2]
    simp (disch:=first|assumption|omega|(simp only [List.length_append,List.length_cons,List.length_nil];omega)) only [go_sem,reduceCtorEq,Nat.reduceEqDiff,Nat.reduceAdd,Nat.reduceSub,Nat.reduceMul,Nat.reduceLeDiff,Int.reduceLT,Int.reduceLE,Int.reduceEq,↓reduceIte,Int.reduceNeg,Int.reduceAdd,Int.reduceSub,Int.reduceMul,true_imp_iff,forall_const,Nat.mul_one,Int.reduceToNat,Nat.reducePow,Int.reducePow,Bool.true_and,Bool.false_and,Bool.and_false,hf,h4,hlt,hlt',hr',List.take_length,←hF]
    refine hdc.mono ?_
    rintro v σ' ⟨rfl,rfl⟩
    simp (disch:=first|assumption|omega|(simp only [List.length_append,List.length_cons,List.length_nil];omega)) only [go_sem,reduceCtorEq,Nat.reduceEqDiff,Nat.reduceAdd,Nat.reduceSub,Nat.reduceMul,Nat.reduceLeDiff,Int.reduceLT,Int.reduceLE,Int.reduceEq,↓reduceIte,Int.reduceNeg,Int.reduceAdd,Int.reduceSub,Int.reduceMul,true_imp_iff,forall_const,Nat.mul_one,Int.reduceToNat,Nat.reducePow,Int.reducePow,Bool.true_and,Bool.false_and,Bool.and_false,hf,ASt.set_set]
    exact retC_by (by repeat' (first|exact Drop.refl _|with_reducible refine Drop.off ?_ (by assumption))) (.refl _) ⟨rfl,rfl⟩
   ·have hw1':¬ (w:Int)=1:=by omega
    have hgo:=sgT_step hne (by rw [hD];intro h;injection h with _ h;exact hw1 h)
    rw [hD] at hgo
    dsimp only at hgo
    rw [hgo,List.drop_drop,Option.map_map] at hm
    simp (disch:=first|assumption|omega|(simp only [List.length_append,List.length_cons,List.length_nil];omega)) only [go_sem,reduceCtorEq,Nat.reduceEqDiff,Nat.reduceAdd,Nat.reduceSub,Nat.reduceMul,Nat.reduceLeDiff,Int.reduceLT,Int.reduceLE,Int.reduceEq,↓reduceIte,Int.reduceNeg,Int.reduceAdd,Int.reduceSub,Int.reduceMul,true_imp_iff,forall_const,Nat.mul_one,Int.reduceToNat,Nat.reducePow,Int.reducePow,Bool.true_and,Bool.false_and,Bool.and_false,hf,h4,←hF]
    refine nxt_more hlt ?_
    rw [hD2]
    simp (disch:=first|assumption|omega|(simp only [List.length_append,List.length_cons,List.length_nil];omega)) only [go_sem,reduceCtorEq,Nat.reduceEqDiff,Nat.reduceAdd,Nat.reduceSub,Nat.reduceMul,Nat.reduceLeDiff,Int.reduceLT,Int.reduceLE,Int.reduceEq,↓reduceIte,Int.reduceNeg,Int.reduceAdd,Int.reduceSub,Int.reduceMul,true_imp_iff,forall_const,Nat.mul_one,Int.reduceToNat,Nat.reducePow,Int.reducePow,Bool.true_and,Bool.false_and,Bool.and_false,hf,h4,hlt,hlt',hr',List.take_length,←hF]
    refine hdc.mono ?_
    rintro v σ' ⟨rfl,rfl⟩
    simp (disch:=first|assumption|omega|(simp only [List.length_append,List.length_cons,List.length_nil];omega)) only [go_sem,reduceCtorEq,Nat.reduceEqDiff,Nat.reduceAdd,Nat.reduceSub,Nat.reduceMul,Nat.reduceLeDiff,Int.reduceLT,Int.reduceLE,Int.reduceEq,↓reduceIte,Int.reduceNeg,Int.reduceAdd,Int.reduceSub,Int.reduceMul,true_imp_iff,forall_const,Nat.mul_one,Int.reduceToNat,Nat.reducePow,Int.reducePow,Bool.true_and,Bool.false_and,Bool.and_false,hf,h4,hw1',ASt.set_set]
    refine ⟨p+w,by dsimp only;omega,Dr.now ⟨by omega,⟨n+1,?_,by omega,?_⟩,?_,rfl⟩⟩
    ·rw [hm]
     congr 1
     funext x
     simp only [Function.comp]
     omega
    ·simp (disch:=first|assumption|omega|(simp only [List.length_append,List.length_cons,List.length_nil];omega)) only [go_sem,reduceCtorEq,Nat.reduceEqDiff,Nat.reduceAdd,Nat.reduceSub,Nat.reduceMul,Nat.reduceLeDiff,Int.reduceLT,Int.reduceLE,Int.reduceEq,↓reduceIte,Int.reduceNeg,Int.reduceAdd,Int.reduceSub,Int.reduceMul,true_imp_iff,forall_const,Nat.mul_one,Int.reduceToNat,Nat.reducePow,Int.reducePow,Bool.true_and,Bool.false_and,Bool.and_false,hf,h4]
    ·simp (disch:=first|assumption|omega|(simp only [List.length_append,List.length_cons,List.length_nil];omega)) only [go_sem,reduceCtorEq,Nat.reduceEqDiff,Nat.reduceAdd,Nat.reduceSub,Nat.reduceMul,Nat.reduceLeDiff,Int.reduceLT,Int.reduceLE,Int.reduceEq,↓reduceIte,Int.reduceNeg,Int.reduceAdd,Int.reduceSub,Int.reduceMul,true_imp_iff,forall_const,Nat.mul_one,Int.reduceToNat,Nat.reducePow,Int.reducePow,Bool.true_and,Bool.false_and,Bool.and_false,hf,h4]
  ·have hr':¬ (r:Int)=65533:=by omega
   have hgo:=sgT_step hne (by rw [hD];intro h;injection h with h _;exact hr h)
   rw [hD] at hgo
   dsimp only at hgo
   rw [hgo,List.drop_drop,Option.map_map] at hm
   simp (disch:=first|assumption|omega|(simp only [List.length_append,List.length_cons,List.length_nil];omega)) only [go_sem,reduceCtorEq,Nat.reduceEqDiff,Nat.reduceAdd,Nat.reduceSub,Nat.reduceMul,Nat.reduceLeDiff,Int.reduceLT,Int.reduceLE,Int.reduceEq,↓reduceIte,Int.reduceNeg,Int.reduceAdd,Int.reduceSub,Int.reduceMul,true_imp_iff,forall_const,Nat.mul_one,Int.reduceToNat,Nat.reducePow,Int.reducePow,Bool.true_and,Bool.false_and,Bool.and_false,hf,h4,←hF]
   refine nxt_more hlt ?_
   rw [hD2]
   simp (disch:=first|assumption|omega|(simp only [List.length_append,List.length_cons,List.length_nil];omega)) only [go_sem,reduceCtorEq,Nat.reduceEqDiff,Nat.reduceAdd,Nat.reduceSub,Nat.reduceMul,Nat.reduceLeDiff,Int.reduceLT,Int.reduceLE,Int.reduceEq,↓reduceIte,Int.reduceNeg,Int.reduceAdd,Int.reduceSub,Int.reduceMul,true_imp_iff,forall_const,Nat.mul_one,Int.reduceToNat,Nat.reducePow,Int.reducePow,Bool.true_and,Bool.false_and,Bool.and_false,hf,h4,hlt,hlt',hr',ASt.set_set,←hF]
   refine ⟨p+w,by dsimp only;omega,Dr.now ⟨by omega,⟨n+1,?_,by omega,?_⟩,?_,rfl⟩⟩
   ·rw [hm]
    congr 1
    funext x
    simp only [Function.comp]
    omega
   ·simp (disch:=first|assumption|omega|(simp only [List.length_append,List.length_cons,List.length_nil];omega)) only [go_sem,reduceCtorEq,Nat.reduceEqDiff,Nat.reduceAdd,Nat.reduceSub,Nat.reduceMul,Nat.reduceLeDiff,Int.reduceLT,Int.reduceLE,Int.reduceEq,↓reduceIte,Int.reduceNeg,Int.reduceAdd,Int.reduceSub,Int.reduceMul,true_imp_iff,forall_const,Nat.mul_one,Int.reduceToNat,Nat.reducePow,Int.reducePow,Bool.true_and,Bool.false_and,Bool.and_false,hf,h4]
   ·simp (disch:=first|assumption|omega|(simp only [List.length_append,List.length_cons,List.length_nil];omega)) only [go_sem,reduceCtorEq,Nat.reduceEqDiff,Nat.reduceAdd,Nat.reduceSub,Nat.reduceMul,Nat.reduceLeDiff,Int.reduceLT,Int.reduceLE,Int.reduceEq,↓reduceIte,Int.reduceNeg,Int.reduceAdd,Int.reduceSub,Int.reduceMul,true_imp_iff,forall_const,Nat.mul_one,Int.reduceToNat,Nat.reducePow,Int.reducePow,Bool.true_and,Bool.false_and,Bool.and_false,hf,h4]
 ·have hlt':¬ (p:Int)<s.length:=by omega
  rw [List.drop_eq_nil_of_le (by omega),sgT_nil] at hm
  simp only [Option.map_some,Nat.zero_add] at hm
  subst hm
  simp (disch:=first|assumption|omega|(simp only [List.length_append,List.length_cons,List.length_nil];omega)) only [go_sem,reduceCtorEq,Nat.reduceEqDiff,Nat.reduceAdd,Nat.reduceSub,Nat.reduceMul,Nat.reduceLeDiff,Int.reduceLT,Int.reduceLE,Int.reduceEq,↓reduceIte,Int.reduceNeg,Int.reduceAdd,Int.reduceSub,Int.reduceMul,true_imp_iff,forall_const,Nat.mul_one,Int.reduceToNat,Nat.reducePow,Int.reducePow,Bool.true_and,Bool.false_and,Bool.and_false,hf,h4,←hF]
  refine nxt_over (by omega) ?_
  simp (disch:=first|assumption|omega|(simp only [List.length_append,List.length_cons,List.length_nil];omega)) only [go_sem,reduceCtorEq,Nat.reduceEqDiff,Nat.reduceAdd,Nat.reduceSub,Nat.reduceMul,Nat.reduceLeDiff,Int.reduceLT,Int.reduceLE,Int.reduceEq,↓reduceIte,Int.reduceNeg,Int.reduceAdd,Int.reduceSub,Int.reduceMul,true_imp_iff,forall_const,Nat.mul_one,Int.reduceToNat,Nat.reducePow,Int.reducePow,Bool.true_and,Bool.false_and,Bool.and_false,hf,h4,←hF]
  rw [hF]
  simp (disch:=first|assumption|omega|(simp only [List.length_append,List.length_cons,List.length_nil];omega)) only [go_sem,reduceCtorEq,Nat.reduceEqDiff,Nat.reduceAdd,Nat.reduceSub,Nat.reduceMul,Nat.reduceLeDiff,Int.reduceLT,Int.reduceLE,Int.reduceEq,↓reduceIte,Int.reduceNeg,Int.reduceAdd,Int.reduceSub,Int.reduceMul,true_imp_iff,forall_const,Nat.mul_one,Int.reduceToNat,Nat.reducePow,Int.reducePow,Bool.true_and,Bool.false_and,Bool.and_false,hf,h4]
  exact retC_by (by repeat' (first|exact Drop.refl _|with_reducible refine Drop.off ?_ (by assumption))) (.refl _) ⟨rfl,rfl⟩
theorem errors_ok:Pure Tryz.prog 18 [] (.sl .shr [.str [35,68,73,86,47,48,33],.str [35,78,85,77,33],.str [35,86,65,76,85,69,33],.str [35,82,69,70,33],.str [35,78,47,65],.str [35,78,65,77,69,63],.str [35,67,89,67,76,69,33]]):=by
 intro σ
 refine a18 (by simp) ?_
 simp (disch:=first|assumption|omega|(simp only [List.length_append,List.length_cons,List.length_nil];omega)) only [go_sem,reduceCtorEq,Nat.reduceEqDiff,Nat.reduceAdd,Nat.reduceSub,Nat.reduceMul,Nat.reduceLeDiff,Int.reduceLT,Int.reduceLE,Int.reduceEq,↓reduceIte,Int.reduceNeg,Int.reduceAdd,Int.reduceSub,Int.reduceMul,true_imp_iff,forall_const,Nat.mul_one,Int.reduceToNat,Nat.reducePow,Int.reducePow,Bool.true_and,Bool.false_and,Bool.and_false]
 exact retC_by (by repeat' (first|exact Drop.refl _|with_reducible refine Drop.off ?_ (by assumption))) (.sl _ _) ⟨rfl,rfl⟩
structure Pl where
 kind:Int
 n:Int
 s:List UInt8
def plAV (p:Pl):AV := .agg [.int .i64 p.kind,.int .i64 p.n,.str p.s]
def ofP (p:Pl):PV:=
 if p.kind=1 then (if p.n.natAbs<=999999999999999999 then .num p.n else .blank)
 else if p.kind=2 then (if (sgT p.s).isSome=true/\p.s.length<=2000 then .text p.s else .blank)
 else if p.kind=3 then .bool (decide (p.n=1))
 else if p.kind=4 then (if 1<=p.n/\p.n<=7 then .fail p.n else .blank)
 else .blank
set_option maxHeartbeats 1000000 in
theorem of_ok {σ:ASt} (h:U8 σ) (p:Pl) (hs:p.s.length<=4611686018427387904):ACalls Tryz.prog 16 [plAV p] σ fun v σ'=>v=(ofP p).av/\σ'=σ:=by
 obtain ⟨k,n,s⟩:=p
 dsimp only at hs
 unfold plAV ofP
 dsimp only
 refine a16 (by simp) ?_
 simp (disch:=first|assumption|omega|(simp only [List.length_append,List.length_cons,List.length_nil];omega)) only [go_sem,reduceCtorEq,Nat.reduceEqDiff,Nat.reduceAdd,Nat.reduceSub,Nat.reduceMul,Nat.reduceLeDiff,Int.reduceLT,Int.reduceLE,Int.reduceEq,↓reduceIte,Int.reduceNeg,Int.reduceAdd,Int.reduceSub,Int.reduceMul,true_imp_iff,forall_const,Nat.mul_one,Int.reduceToNat,Nat.reducePow,Int.reducePow,Bool.true_and,Bool.false_and,Bool.and_false]
 refine boxC_by rfl fun b hb=>?_
 have hE:=errors_ok
 by_cases k1:k=1
 ·rw [if_pos k1]
  simp (disch:=first|assumption|omega|(simp only [List.length_append,List.length_cons,List.length_nil];omega)) only [go_sem,reduceCtorEq,Nat.reduceEqDiff,Nat.reduceAdd,Nat.reduceSub,Nat.reduceMul,Nat.reduceLeDiff,Int.reduceLT,Int.reduceLE,Int.reduceEq,↓reduceIte,Int.reduceNeg,Int.reduceAdd,Int.reduceSub,Int.reduceMul,true_imp_iff,forall_const,Nat.mul_one,Int.reduceToNat,Nat.reducePow,Int.reducePow,Bool.true_and,Bool.false_and,Bool.and_false,k1]
  refine (dgood_ok n).use ?_
  by_cases hg:n.natAbs<=999999999999999999
  ·rw [if_pos hg]
   simp only [PV.av]
   simp (disch:=first|assumption|omega|(simp only [List.length_append,List.length_cons,List.length_nil];omega)) only [go_sem,reduceCtorEq,Nat.reduceEqDiff,Nat.reduceAdd,Nat.reduceSub,Nat.reduceMul,Nat.reduceLeDiff,Int.reduceLT,Int.reduceLE,Int.reduceEq,↓reduceIte,Int.reduceNeg,Int.reduceAdd,Int.reduceSub,Int.reduceMul,true_imp_iff,forall_const,Nat.mul_one,Int.reduceToNat,Nat.reducePow,Int.reducePow,Bool.true_and,Bool.false_and,Bool.and_false,hg]
   exact retC_by (Drop.set hb) (.refl _) ⟨rfl,rfl⟩
  ·rw [if_neg hg]
   simp only [PV.av]
   simp (disch:=first|assumption|omega|(simp only [List.length_append,List.length_cons,List.length_nil];omega)) only [go_sem,reduceCtorEq,Nat.reduceEqDiff,Nat.reduceAdd,Nat.reduceSub,Nat.reduceMul,Nat.reduceLeDiff,Int.reduceLT,Int.reduceLE,Int.reduceEq,↓reduceIte,Int.reduceNeg,Int.reduceAdd,Int.reduceSub,Int.reduceMul,true_imp_iff,forall_const,Nat.mul_one,Int.reduceToNat,Nat.reducePow,Int.reducePow,Bool.true_and,Bool.false_and,Bool.and_false,hg]
   exact retC_by (Drop.set hb) (.refl _) ⟨rfl,rfl⟩
 rw [if_neg k1]
 by_cases k2:k=2
 ·rw [if_pos k2]
  have hS2:=signs_ok (h.set hb (r:=some (.obj [.int .i64 2,.int .i64 n,.str s]))) s hs
  simp (disch:=first|assumption|omega|(simp only [List.length_append,List.length_cons,List.length_nil];omega)) only [go_sem,reduceCtorEq,Nat.reduceEqDiff,Nat.reduceAdd,Nat.reduceSub,Nat.reduceMul,Nat.reduceLeDiff,Int.reduceLT,Int.reduceLE,Int.reduceEq,↓reduceIte,Int.reduceNeg,Int.reduceAdd,Int.reduceSub,Int.reduceMul,true_imp_iff,forall_const,Nat.mul_one,Int.reduceToNat,Nat.reducePow,Int.reducePow,Bool.true_and,Bool.false_and,Bool.and_false,k1,k2]
  refine hS2.mono ?_
  rintro v σ' ⟨rfl,rfl⟩
  unfold sgAV
  cases sgT s with
  | none=>
    rw [if_neg (by simp)]
    simp only [PV.av]
    simp (disch:=first|assumption|omega|(simp only [List.length_append,List.length_cons,List.length_nil];omega)) only [go_sem,reduceCtorEq,Nat.reduceEqDiff,Nat.reduceAdd,Nat.reduceSub,Nat.reduceMul,Nat.reduceLeDiff,Int.reduceLT,Int.reduceLE,Int.reduceEq,↓reduceIte,Int.reduceNeg,Int.reduceAdd,Int.reduceSub,Int.reduceMul,true_imp_iff,forall_const,Nat.mul_one,Int.reduceToNat,Nat.reducePow,Int.reducePow,Bool.true_and,Bool.false_and,Bool.and_false]
    exact retC_by (Drop.set hb) (.refl _) ⟨rfl,rfl⟩
  | some m=>
    by_cases hl:s.length<=2000
    ·have hl':(s.length:Int)<=2000:=by omega
     rw [if_pos ⟨rfl,hl⟩]
     simp only [PV.av]
     simp (disch:=first|assumption|omega|(simp only [List.length_append,List.length_cons,List.length_nil];omega)) only [go_sem,reduceCtorEq,Nat.reduceEqDiff,Nat.reduceAdd,Nat.reduceSub,Nat.reduceMul,Nat.reduceLeDiff,Int.reduceLT,Int.reduceLE,Int.reduceEq,↓reduceIte,Int.reduceNeg,Int.reduceAdd,Int.reduceSub,Int.reduceMul,true_imp_iff,forall_const,Nat.mul_one,Int.reduceToNat,Nat.reducePow,Int.reducePow,Bool.true_and,Bool.false_and,Bool.and_false,hl']
     exact retC_by (Drop.set hb) (.refl _) ⟨rfl,rfl⟩
    ·have hl':¬ (s.length:Int)<=2000:=by omega
     rw [if_neg (fun h=>hl h.2)]
     simp only [PV.av]
     simp (disch:=first|assumption|omega|(simp only [List.length_append,List.length_cons,List.length_nil];omega)) only [go_sem,reduceCtorEq,Nat.reduceEqDiff,Nat.reduceAdd,Nat.reduceSub,Nat.reduceMul,Nat.reduceLeDiff,Int.reduceLT,Int.reduceLE,Int.reduceEq,↓reduceIte,Int.reduceNeg,Int.reduceAdd,Int.reduceSub,Int.reduceMul,true_imp_iff,forall_const,Nat.mul_one,Int.reduceToNat,Nat.reducePow,Int.reducePow,Bool.true_and,Bool.false_and,Bool.and_false,hl']
     exact retC_by (Drop.set hb) (.refl _) ⟨rfl,rfl⟩
 rw [if_neg k2]
 by_cases k3:k=3
 ·rw [if_pos k3]
  simp only [PV.av]
  simp (disch:=first|assumption|omega|(simp only [List.length_append,List.length_cons,List.length_nil];omega)) only [go_sem,reduceCtorEq,Nat.reduceEqDiff,Nat.reduceAdd,Nat.reduceSub,Nat.reduceMul,Nat.reduceLeDiff,Int.reduceLT,Int.reduceLE,Int.reduceEq,↓reduceIte,Int.reduceNeg,Int.reduceAdd,Int.reduceSub,Int.reduceMul,true_imp_iff,forall_const,Nat.mul_one,Int.reduceToNat,Nat.reducePow,Int.reducePow,Bool.true_and,Bool.false_and,Bool.and_false,k1,k2,k3]
  exact retC_by (Drop.set hb) (.refl _) ⟨rfl,rfl⟩
 rw [if_neg k3]
 by_cases k4:k=4
 ·rw [if_pos k4]
  by_cases g1:1<=n
  ·simp (disch:=first|assumption|omega|(simp only [List.length_append,List.length_cons,List.length_nil];omega)) only [go_sem,reduceCtorEq,Nat.reduceEqDiff,Nat.reduceAdd,Nat.reduceSub,Nat.reduceMul,Nat.reduceLeDiff,Int.reduceLT,Int.reduceLE,Int.reduceEq,↓reduceIte,Int.reduceNeg,Int.reduceAdd,Int.reduceSub,Int.reduceMul,true_imp_iff,forall_const,Nat.mul_one,Int.reduceToNat,Nat.reducePow,Int.reducePow,Bool.true_and,Bool.false_and,Bool.and_false,k1,k2,k3,k4,g1]
   refine hE.use ?_
   by_cases g2:n<=7
   ·rw [if_pos g2]
    simp only [PV.av]
    simp (disch:=first|assumption|omega|(simp only [List.length_append,List.length_cons,List.length_nil];omega)) only [go_sem,reduceCtorEq,Nat.reduceEqDiff,Nat.reduceAdd,Nat.reduceSub,Nat.reduceMul,Nat.reduceLeDiff,Int.reduceLT,Int.reduceLE,Int.reduceEq,↓reduceIte,Int.reduceNeg,Int.reduceAdd,Int.reduceSub,Int.reduceMul,true_imp_iff,forall_const,Nat.mul_one,Int.reduceToNat,Nat.reducePow,Int.reducePow,Bool.true_and,Bool.false_and,Bool.and_false,g2]
    exact retC_by (Drop.set hb) (.refl _) ⟨rfl,rfl⟩
   ·rw [if_neg g2]
    simp only [PV.av]
    simp (disch:=first|assumption|omega|(simp only [List.length_append,List.length_cons,List.length_nil];omega)) only [go_sem,reduceCtorEq,Nat.reduceEqDiff,Nat.reduceAdd,Nat.reduceSub,Nat.reduceMul,Nat.reduceLeDiff,Int.reduceLT,Int.reduceLE,Int.reduceEq,↓reduceIte,Int.reduceNeg,Int.reduceAdd,Int.reduceSub,Int.reduceMul,true_imp_iff,forall_const,Nat.mul_one,Int.reduceToNat,Nat.reducePow,Int.reducePow,Bool.true_and,Bool.false_and,Bool.and_false,g2]
    exact retC_by (Drop.set hb) (.refl _) ⟨rfl,rfl⟩
  ·rw [if_neg (fun h=>g1 h.1)]
   simp only [PV.av]
   simp (disch:=first|assumption|omega|(simp only [List.length_append,List.length_cons,List.length_nil];omega)) only [go_sem,reduceCtorEq,Nat.reduceEqDiff,Nat.reduceAdd,Nat.reduceSub,Nat.reduceMul,Nat.reduceLeDiff,Int.reduceLT,Int.reduceLE,Int.reduceEq,↓reduceIte,Int.reduceNeg,Int.reduceAdd,Int.reduceSub,Int.reduceMul,true_imp_iff,forall_const,Nat.mul_one,Int.reduceToNat,Nat.reducePow,Int.reducePow,Bool.true_and,Bool.false_and,Bool.and_false,k1,k2,k3,k4,g1]
   exact retC_by (Drop.set hb) (.refl _) ⟨rfl,rfl⟩
 ·rw [if_neg k4]
  simp only [PV.av]
  simp (disch:=first|assumption|omega|(simp only [List.length_append,List.length_cons,List.length_nil];omega)) only [go_sem,reduceCtorEq,Nat.reduceEqDiff,Nat.reduceAdd,Nat.reduceSub,Nat.reduceMul,Nat.reduceLeDiff,Int.reduceLT,Int.reduceLE,Int.reduceEq,↓reduceIte,Int.reduceNeg,Int.reduceAdd,Int.reduceSub,Int.reduceMul,true_imp_iff,forall_const,Nat.mul_one,Int.reduceToNat,Nat.reducePow,Int.reducePow,Bool.true_and,Bool.false_and,Bool.and_false,k1,k2,k3,k4]
  exact retC_by (Drop.set hb) (.refl _) ⟨rfl,rfl⟩
end Go.A
namespace Go.A
open Go.Proofs
/-! 32: tabular/value.Great -/
def c32_15:ACode := .seq (.ops [ oq 11 (.bin .lss (.t 10) (.t 9))]) (.seq (.cond (.t 11) .skip (.exit 0)) (.seq (.block 1 (.seq (.ops [ oq 12 (.mv (.t 10)),oq 13 (.ia 1 (.t 8) (.t 10)),oq 14 (.ld none (.t 13)),oq 4 (.mv (.t 12)),oq 5 (.mv (.t 14))]) (.seq (.ops [ oq 15 (.mv (.t 5)),oq 16 (.bin .geq (.t 15) (.v (.int .u8 97))),oq 17 (.mv (.t 16)),⟨some 18,some (17,true),.q (.mv (.t 5)),[]⟩,⟨some 19,some (17,true),.q (.bin .leq (.t 18) (.v (.int .u8 122))),[]⟩,oq 20 (.pick (.t 17) (.t 19) (.v (.bool false)))]) (.cond (.t 20) (.ops [ oq 21 (.mv (.t 3)),oq 22 (.mv (.t 4)),oq 23 (.mv (.t 5)),oq 24 (.bin .sub (.t 23) (.v (.int .u8 32))),oq 25 (.ia 1 (.t 21) (.t 22)),oz (.store 1 (.t 25) (.t 24))]) .skip)))) (.ops [ oq 26 (.bin .add (.t 10) (.v (.int .i64 1))),oq 10 (.mv (.t 26))])))
def c32_23:ACode := .seq (.ops [ oq 2 (.mv (.v (.str [])))]) (.seq (.ops [ oq 6 (.mv (.t 0)),oe 7 (.s2b (.t 6)),oq 3 (.mv (.t 7))]) (.seq (.seq (.ops [ oq 8 (.mv (.t 3)),oq 9 (.len (.t 8)),oq 10 (.mv (.v (.int .i64 0)))]) (.block 0 (.loop c32_15))) (.seq (.ops [ oq 27 (.mv (.t 3)),oq 28 (.b2s (.t 27)),oq 2 (.mv (.t 28))]) .ret)))
@[go_sem] def c32_15_wp:=wp_of c32_15.eq_1
@[go_sem] def c32_23_wp:=wp_of c32_23.eq_1
def c32:AFn:=⟨29,[.t 2],c32_23⟩
theorem c32_ok:compF Tryz.prog Tryz.f32=some c32:=by kernel_rfl
theorem a32 {args:List AV} {σ:ASt} {R:AV->ASt->Prop} (hl:args.length<=29) (h:c32_23.wp Tryz.prog (RetQ [.t 2] R) (init args) σ):ACalls Tryz.prog 32 args σ R:=acalls_of Tryz.func32 c32_ok hl h
end Go.A
namespace Go.A
open Go.Proofs Go.Lib
theorem vgreat_ok (l:List UInt8) (hl:l.length<4611686018427387904):Pure Tryz.prog 32 [.str l] (.str (greatP l)):=by
 intro σ
 refine a32 (by simp) ?_
 simp (disch:=first|assumption|omega|(simp only [List.length_append,List.length_cons,List.length_nil];omega)) only [go_sem,reduceCtorEq,Nat.reduceEqDiff,Nat.reduceAdd,Nat.reduceSub,Nat.reduceMul,Nat.reduceLeDiff,Int.reduceLT,Int.reduceLE,Int.reduceEq,↓reduceIte,Int.reduceNeg,Int.reduceAdd,Int.reduceSub,Int.reduceMul,true_imp_iff,forall_const,Nat.mul_one,Int.reduceToNat,Nat.reducePow,Int.reducePow,Bool.true_and,Bool.false_and,Bool.and_false]
 refine s2b_own fun b cp hb hcp=>?_
 simp (disch:=first|assumption|omega|(simp only [List.length_append,List.length_cons,List.length_nil];omega)) only [go_sem,reduceCtorEq,Nat.reduceEqDiff,Nat.reduceAdd,Nat.reduceSub,Nat.reduceMul,Nat.reduceLeDiff,Int.reduceLT,Int.reduceLE,Int.reduceEq,↓reduceIte,Int.reduceNeg,Int.reduceAdd,Int.reduceSub,Int.reduceMul,true_imp_iff,forall_const,Nat.mul_one,Int.reduceToNat,Nat.reducePow,Int.reducePow,Bool.true_and,Bool.false_and,Bool.and_false]
 refine wp_loop_on (fun (i:Nat) a σ'=>i<=l.length/\(a 3 = .msl b 0 l.length cp/\a 8 = .msl b 0 l.length cp/\a 9 = .int .i64 l.length/\a 10 = .int .i64 i)/\σ'=σ.set b (some (.obj (bytesAV (greatP (l.take i)++l.drop i)))))
  (fun i=>l.length-i) 0 ⟨Nat.zero_le _,?_,by simp [greatP]⟩ ?_
 ·simp (disch:=first|assumption|omega|(simp only [List.length_append,List.length_cons,List.length_nil];omega)) only [go_sem,reduceCtorEq,Nat.reduceEqDiff,Nat.reduceAdd,Nat.reduceSub,Nat.reduceMul,Nat.reduceLeDiff,Int.reduceLT,Int.reduceLE,Int.reduceEq,↓reduceIte,Int.reduceNeg,Int.reduceAdd,Int.reduceSub,Int.reduceMul,true_imp_iff,forall_const,Nat.mul_one,Int.reduceToNat,Nat.reducePow,Int.reducePow,Bool.true_and,Bool.false_and,Bool.and_false]
 rintro i a σ1 ⟨hi,hf,rfl⟩
 obtain ⟨m,hm⟩:∃ m,greatP (l.take i)++l.drop i=m:=⟨_,rfl⟩
 have hml:m.length=l.length:=by rw [<-hm];simp [greatP];omega
 have hgl:(greatP (l.take i)).length=i:=by simp [greatP];omega
 rw [hm]
 by_cases hlt:i<l.length
 ·have hidx : m[i]? = some (l[i]'hlt) := by rw [← hm, List.getElem?_append_right (by omega), hgl]; simp
  obtain ⟨c, hc⟩ : ∃ c, l[i]'hlt = c := ⟨_, rfl⟩
  rw [hc] at hidx
  have hcb:=u8_lt c
  have hi2:(i:Int)<l.length:=by omega
  have hle:i+1<=m.length:=by omega
  have hnext:greatP (l.take (i+1))++l.drop (i+1)=m.set i (greatC c):=by
   rw [<-hm,List.take_succ_eq_append_getElem hlt,hc,List.set_append_right _ _ (by omega),hgl,Nat.sub_self]
   simp only [greatP,List.map_append,List.map_cons,List.map_nil,List.append_assoc,List.singleton_append]
   rw [List.drop_eq_getElem_cons hlt]
   rfl
  by_cases hg:97<=c.toNat/\c.toNat<=122
  ·have g1:(97:Int)<=c.toNat:=by omega
   have g2:(c.toNat:Int)<=122:=by omega
   have hgc:greatC c=UInt8.ofNat (c.toNat-32):=by unfold greatC;rw [if_pos hg]
   have hw:=set_bytes (l:=m) (i:=i) (m:=(c.toNat:Int)-32) (by omega)
   have hw0:(c.toNat:Int)-32=((UInt8.ofNat (c.toNat-32)).toNat:Int):=by rw [u8_nat (by omega)];omega
   rw [hw0,bytes_set] at hw
   simp (disch:=first|assumption|omega|(simp only [List.length_append,List.length_cons,List.length_nil];omega)) only [go_sem,reduceCtorEq,Nat.reduceEqDiff,Nat.reduceAdd,Nat.reduceSub,Nat.reduceMul,Nat.reduceLeDiff,Int.reduceLT,Int.reduceLE,Int.reduceEq,↓reduceIte,Int.reduceNeg,Int.reduceAdd,Int.reduceSub,Int.reduceMul,true_imp_iff,forall_const,Nat.mul_one,Int.reduceToNat,Nat.reducePow,Int.reducePow,Bool.true_and,Bool.false_and,Bool.and_false,hf,hi2,hidx,g1,g2,hle,hw0,hw]
   refine ⟨i+1,by omega,by omega,?_,by rw [hnext,hgc]⟩
   simp (disch:=first|assumption|omega|(simp only [List.length_append,List.length_cons,List.length_nil];omega)) only [go_sem,reduceCtorEq,Nat.reduceEqDiff,Nat.reduceAdd,Nat.reduceSub,Nat.reduceMul,Nat.reduceLeDiff,Int.reduceLT,Int.reduceLE,Int.reduceEq,↓reduceIte,Int.reduceNeg,Int.reduceAdd,Int.reduceSub,Int.reduceMul,true_imp_iff,forall_const,Nat.mul_one,Int.reduceToNat,Nat.reducePow,Int.reducePow,Bool.true_and,Bool.false_and,Bool.and_false,hf]
  ·have hgc:greatC c=c:=by unfold greatC;rw [if_neg hg]
   have hms:m.set i c=m:=by
    apply List.ext_getElem?
    intro j
    rw [List.getElem?_set]
    split
    ·rename_i h;subst h;rw [hidx];split<;>first|rfl|omega
    ·rfl
   by_cases g1:(97:Int)<=c.toNat
   ·have g2:¬ (c.toNat:Int)<=122:=by omega
    simp (disch:=first|assumption|omega|(simp only [List.length_append,List.length_cons,List.length_nil];omega)) only [go_sem,reduceCtorEq,Nat.reduceEqDiff,Nat.reduceAdd,Nat.reduceSub,Nat.reduceMul,Nat.reduceLeDiff,Int.reduceLT,Int.reduceLE,Int.reduceEq,↓reduceIte,Int.reduceNeg,Int.reduceAdd,Int.reduceSub,Int.reduceMul,true_imp_iff,forall_const,Nat.mul_one,Int.reduceToNat,Nat.reducePow,Int.reducePow,Bool.true_and,Bool.false_and,Bool.and_false,hf,hi2,hidx,g1,g2]
    refine ⟨i+1,by omega,by omega,?_,by rw [hnext,hgc,hms]⟩
    simp (disch:=first|assumption|omega|(simp only [List.length_append,List.length_cons,List.length_nil];omega)) only [go_sem,reduceCtorEq,Nat.reduceEqDiff,Nat.reduceAdd,Nat.reduceSub,Nat.reduceMul,Nat.reduceLeDiff,Int.reduceLT,Int.reduceLE,Int.reduceEq,↓reduceIte,Int.reduceNeg,Int.reduceAdd,Int.reduceSub,Int.reduceMul,true_imp_iff,forall_const,Nat.mul_one,Int.reduceToNat,Nat.reducePow,Int.reducePow,Bool.true_and,Bool.false_and,Bool.and_false,hf]
   ·simp (disch:=first|assumption|omega|(simp only [List.length_append,List.length_cons,List.length_nil];omega)) only [go_sem,reduceCtorEq,Nat.reduceEqDiff,Nat.reduceAdd,Nat.reduceSub,Nat.reduceMul,Nat.reduceLeDiff,Int.reduceLT,Int.reduceLE,Int.reduceEq,↓reduceIte,Int.reduceNeg,Int.reduceAdd,Int.reduceSub,Int.reduceMul,true_imp_iff,forall_const,Nat.mul_one,Int.reduceToNat,Nat.reducePow,Int.reducePow,Bool.true_and,Bool.false_and,Bool.and_false,hf,hi2,hidx,g1]
    refine ⟨i+1,by omega,by omega,?_,by rw [hnext,hgc,hms]⟩
    simp (disch:=first|assumption|omega|(simp only [List.length_append,List.length_cons,List.length_nil];omega)) only [go_sem,reduceCtorEq,Nat.reduceEqDiff,Nat.reduceAdd,Nat.reduceSub,Nat.reduceMul,Nat.reduceLeDiff,Int.reduceLT,Int.reduceLE,Int.reduceEq,↓reduceIte,Int.reduceNeg,Int.reduceAdd,Int.reduceSub,Int.reduceMul,true_imp_iff,forall_const,Nat.mul_one,Int.reduceToNat,Nat.reducePow,Int.reducePow,Bool.true_and,Bool.false_and,Bool.and_false,hf]
 ·have e:greatP (l.take i)++l.drop i=greatP l:=by rw [List.take_of_length_le (by omega),List.drop_of_length_le (by omega),List.append_nil]
  have hi2:¬ (i:Int)<l.length:=by omega
  rw [e] at hm
  subst hm
  have hb2:bytesOf ((bytesAV (greatP l)).take l.length)=some (greatP l):=by
   rw [List.take_of_length_le (by simp [bytesAV,greatP])]
   exact bytesOf_bytesAV _
  simp (disch:=first|assumption|omega|(simp only [List.length_append,List.length_cons,List.length_nil];omega)) only [go_sem,reduceCtorEq,Nat.reduceEqDiff,Nat.reduceAdd,Nat.reduceSub,Nat.reduceMul,Nat.reduceLeDiff,Int.reduceLT,Int.reduceLE,Int.reduceEq,↓reduceIte,Int.reduceNeg,Int.reduceAdd,Int.reduceSub,Int.reduceMul,true_imp_iff,forall_const,Nat.mul_one,Int.reduceToNat,Nat.reducePow,Int.reducePow,Bool.true_and,Bool.false_and,Bool.and_false,hf,hi2,hml,hb2,Nat.le_refl]
  exact retC_by (Drop.set hb) (.refl _) ⟨rfl,rfl⟩
end Go.A
namespace Go.A
open Go.Proofs
/-! 11: tabular/value.Show -/
def c11_13:ACode := .seq (.ops [ oq 2 (.mv (.v (.str [])))]) (.seq (.seq (.ops [ oq 8 (.mv (.t 0)),oe 9 (.call 17 [(.t 8)]),oq 7 (.mv (.t 9)),oq 10 (.ext 0 (.t 7)),oq 11 (.ext 1 (.t 7)),oq 3 (.mv (.t 10)),oq 4 (.mv (.t 11))]) (.seq (.ops [ oq 12 (.mv (.t 4))]) (.cond (.t 12) (.seq (.ops [ oe 13 (.call 18 []),oq 14 (.mv (.t 3)),oq 15 (.bin .sub (.t 14) (.v (.int .i64 1))),oq 16 (.ia 1 (.t 13) (.t 15)),oq 17 (.ld none (.t 16)),oq 2 (.mv (.t 17))]) .ret) .skip))) (.seq (.ops [ oq 19 (.mv (.t 0)),oe 20 (.call 19 [(.t 19)]),oq 18 (.mv (.t 20)),oq 21 (.ext 0 (.t 18)),oq 22 (.ext 1 (.t 18)),oq 5 (.mv (.t 21)),oq 6 (.mv (.t 22))]) (.seq (.ops [ oq 23 (.mv (.t 5)),oq 2 (.mv (.t 23))]) .ret)))
@[go_sem] def c11_13_wp:=wp_of c11_13.eq_1
def c11:AFn:=⟨24,[.t 2],c11_13⟩
theorem c11_ok:compF Tryz.prog Tryz.f11=some c11:=by kernel_rfl
theorem a11 {args:List AV} {σ:ASt} {R:AV->ASt->Prop} (hl:args.length<=24) (h:c11_13.wp Tryz.prog (RetQ [.t 2] R) (init args) σ):ACalls Tryz.prog 11 args σ R:=acalls_of Tryz.func11 c11_ok hl h
end Go.A
namespace Go.A
open Go.Proofs
/-! 19: tabular/value.AsText -/
def c19_41:ACode := .seq (.ops [ oq 2 (.mv (.v (.str []))),oq 3 (.mv (.v (.int .i64 0)))]) (.seq (.seq (.ops [ oq 8 (.mv (.t 0))]) (.block 0 (.seq (.ops [ oq 9 (.ta 77 (.int .i64 0) true (.t 8)),oq 10 (.ext 1 (.t 9)),oq 11 (.ext 0 (.t 9))]) (.cond (.t 10) (.seq (.ops [ oq 4 (.mv (.t 11))]) (.seq (.ops [ oq 12 (.mv (.t 4)),oe 13 (.call 39 [(.t 12)]),oq 2 (.mv (.t 13)),oq 3 (.mv (.v (.int .i64 0)))]) .ret)) (.seq (.ops [ oq 14 (.ta 70 (.bool false) true (.t 8)),oq 15 (.ext 1 (.t 14)),oq 16 (.ext 0 (.t 14))]) (.cond (.t 15) (.seq (.ops [ oq 5 (.mv (.t 16))]) (.seq (.seq (.ops [ oq 17 (.mv (.t 5))]) (.cond (.t 17) (.seq (.ops [ oq 2 (.mv (.v (.str [84,82,85,69]))),oq 3 (.mv (.v (.int .i64 0)))]) .ret) .skip)) (.seq (.ops [ oq 2 (.mv (.v (.str [70,65,76,83,69]))),oq 3 (.mv (.v (.int .i64 0)))]) .ret))) (.seq (.ops [ oq 18 (.ta 43 (.str []) true (.t 8)),oq 19 (.ext 1 (.t 18)),oq 20 (.ext 0 (.t 18))]) (.cond (.t 19) (.seq (.ops [ oq 6 (.mv (.t 20))]) (.seq (.ops [ oq 21 (.mv (.t 6)),oq 2 (.mv (.t 21)),oq 3 (.mv (.v (.int .i64 0)))]) .ret)) (.seq (.ops [ oq 22 (.ta 47 (.int .i64 0) true (.t 8)),oq 23 (.ext 1 (.t 22)),oq 24 (.ext 0 (.t 22))]) (.cond (.t 23) (.seq (.ops [ oq 7 (.mv (.t 24))]) (.seq (.ops [ oq 25 (.mv (.t 7)),oq 2 (.mv (.v (.str []))),oq 3 (.mv (.t 25))]) .ret)) .skip)))))))))) (.seq (.ops [ oq 2 (.mv (.v (.str []))),oq 3 (.mv (.v (.int .i64 0)))]) .ret))
@[go_sem] def c19_41_wp:=wp_of c19_41.eq_1
def c19:AFn:=⟨26,[.t 2,.t 3],c19_41⟩
theorem c19_ok:compF Tryz.prog Tryz.f19=some c19:=by kernel_rfl
theorem a19 {args:List AV} {σ:ASt} {R:AV->ASt->Prop} (hl:args.length<=26) (h:c19_41.wp Tryz.prog (RetQ [.t 2,.t 3] R) (init args) σ):ACalls Tryz.prog 19 args σ R:=acalls_of Tryz.func19 c19_ok hl h
/-! 43: tabular/value.Join -/
end Go.A
namespace Go.A
open Go.Proofs Go.Lib
def PV.good:PV->Prop
 | .num n=>n.natAbs<=999999999999999999
 | .fail n=>1<=n/\n<=7
 | _=>True
def asTextP:PV->List UInt8×Int
 | .blank=>([],0)
 | .num n=>(textD n,0)
 | .text s=>(s,0)
 | .bool b=>(if b=true then [84,82,85,69] else [70,65,76,83,69],0)
 | .fail f=>([],f)
theorem asText_ok {σ:ASt} (hT:Tab σ) (v:PV) (hv:v.good):ACalls Tryz.prog 19 [v.av] σ fun r σ'=>r = .tuple [.str (asTextP v).1,.int .i64 (asTextP v).2]/\σ'=σ:=by
 refine a19 (by simp) ?_
 cases v with
 | num n=>
   have hD:=dtext_ok hT hv
   simp only [PV.av,asTextP]
   simp (disch:=first|assumption|omega|(simp only [List.length_append,List.length_cons,List.length_nil];omega)) only [go_sem,reduceCtorEq,Nat.reduceEqDiff,Nat.reduceAdd,Nat.reduceSub,Nat.reduceMul,Nat.reduceLeDiff,Int.reduceLT,Int.reduceLE,Int.reduceEq,↓reduceIte,Int.reduceNeg,Int.reduceAdd,Int.reduceSub,Int.reduceMul,true_imp_iff,forall_const,Nat.mul_one,Int.reduceToNat,Nat.reducePow,Int.reducePow,Bool.true_and,Bool.false_and,Bool.and_false]
   refine hD.mono ?_
   rintro v σ' ⟨rfl,rfl⟩
   simp (disch:=first|assumption|omega|(simp only [List.length_append,List.length_cons,List.length_nil];omega)) only [go_sem,reduceCtorEq,Nat.reduceEqDiff,Nat.reduceAdd,Nat.reduceSub,Nat.reduceMul,Nat.reduceLeDiff,Int.reduceLT,Int.reduceLE,Int.reduceEq,↓reduceIte,Int.reduceNeg,Int.reduceAdd,Int.reduceSub,Int.reduceMul,true_imp_iff,forall_const,Nat.mul_one,Int.reduceToNat,Nat.reducePow,Int.reducePow,Bool.true_and,Bool.false_and,Bool.and_false]
   exact retC_by (by repeat' (first|exact Drop.refl _|with_reducible refine Drop.off ?_ (by assumption))) (.refl _) ⟨rfl,rfl⟩
 | bool b=>
   cases b<;>simp only [PV.av,asTextP]<;>simp (disch:=first|assumption|omega|(simp only [List.length_append,List.length_cons,List.length_nil];omega)) only [go_sem,reduceCtorEq,Nat.reduceEqDiff,Nat.reduceAdd,Nat.reduceSub,Nat.reduceMul,Nat.reduceLeDiff,Int.reduceLT,Int.reduceLE,Int.reduceEq,↓reduceIte,Int.reduceNeg,Int.reduceAdd,Int.reduceSub,Int.reduceMul,true_imp_iff,forall_const,Nat.mul_one,Int.reduceToNat,Nat.reducePow,Int.reducePow,Bool.true_and,Bool.false_and,Bool.and_false]
   all_goals exact retC_by (by repeat' (first|exact Drop.refl _|with_reducible refine Drop.off ?_ (by assumption))) (.refl _) ⟨rfl,rfl⟩
 | blank=>
   simp only [PV.av,asTextP]
   simp (disch:=first|assumption|omega|(simp only [List.length_append,List.length_cons,List.length_nil];omega)) only [go_sem,reduceCtorEq,Nat.reduceEqDiff,Nat.reduceAdd,Nat.reduceSub,Nat.reduceMul,Nat.reduceLeDiff,Int.reduceLT,Int.reduceLE,Int.reduceEq,↓reduceIte,Int.reduceNeg,Int.reduceAdd,Int.reduceSub,Int.reduceMul,true_imp_iff,forall_const,Nat.mul_one,Int.reduceToNat,Nat.reducePow,Int.reducePow,Bool.true_and,Bool.false_and,Bool.and_false]
   exact retC_by (by repeat' (first|exact Drop.refl _|with_reducible refine Drop.off ?_ (by assumption))) (.refl _) ⟨rfl,rfl⟩
 | text s=>
   simp only [PV.av,asTextP]
   simp (disch:=first|assumption|omega|(simp only [List.length_append,List.length_cons,List.length_nil];omega)) only [go_sem,reduceCtorEq,Nat.reduceEqDiff,Nat.reduceAdd,Nat.reduceSub,Nat.reduceMul,Nat.reduceLeDiff,Int.reduceLT,Int.reduceLE,Int.reduceEq,↓reduceIte,Int.reduceNeg,Int.reduceAdd,Int.reduceSub,Int.reduceMul,true_imp_iff,forall_const,Nat.mul_one,Int.reduceToNat,Nat.reducePow,Int.reducePow,Bool.true_and,Bool.false_and,Bool.and_false]
   exact retC_by (by repeat' (first|exact Drop.refl _|with_reducible refine Drop.off ?_ (by assumption))) (.refl _) ⟨rfl,rfl⟩
 | fail s=>
   simp only [PV.av,asTextP]
   simp (disch:=first|assumption|omega|(simp only [List.length_append,List.length_cons,List.length_nil];omega)) only [go_sem,reduceCtorEq,Nat.reduceEqDiff,Nat.reduceAdd,Nat.reduceSub,Nat.reduceMul,Nat.reduceLeDiff,Int.reduceLT,Int.reduceLE,Int.reduceEq,↓reduceIte,Int.reduceNeg,Int.reduceAdd,Int.reduceSub,Int.reduceMul,true_imp_iff,forall_const,Nat.mul_one,Int.reduceToNat,Nat.reducePow,Int.reducePow,Bool.true_and,Bool.false_and,Bool.and_false]
   exact retC_by (by repeat' (first|exact Drop.refl _|with_reducible refine Drop.off ?_ (by assumption))) (.refl _) ⟨rfl,rfl⟩
end Go.A
namespace Go.A
open Go.Proofs
/-! 28: tabular/texts.sides -/
def c28_15:ACode := .seq (.ops [ oq 6 (.mv (.v .nili))]) (.seq (.seq (.ops [ oq 7 (.mv (.t 2)),oq 8 (.bin .lss (.t 7) (.v (.int .i64 0)))]) (.cond (.t 8) (.seq (.ops [ oq 9 (.mki 47 (.v (.int .i64 3))),oq 6 (.mv (.t 9))]) .ret) .skip)) (.seq (.seq (.ops [ oq 10 (.mv (.t 0)),oq 11 (.bin .eql (.t 10) (.v (.str [76,69,70,84])))]) (.cond (.t 11) (.seq (.ops [ oq 12 (.mv (.t 1)),oq 13 (.mv (.t 2)),oe 14 (.call 29 [(.t 12),(.v (.int .i64 0)),(.t 13)]),oq 15 (.mki 43 (.t 14)),oq 6 (.mv (.t 15))]) .ret) .skip)) (.seq (.ops [ oq 16 (.mv (.t 1)),oq 17 (.mv (.t 1)),oq 18 (.mv (.t 1)),oe 19 (.call 48 [(.t 18)]),oq 20 (.mv (.t 2)),oq 21 (.bin .sub (.t 19) (.t 20)),oq 22 (.mnx true (.t 21) (.v (.int .i64 0))),oe 23 (.call 47 [(.t 17),(.t 22)]),oq 24 (.slfrom (true,0) (.t 16) (.t 23)),oq 25 (.mki 43 (.t 24)),oq 6 (.mv (.t 25))]) .ret)))
@[go_sem] def c28_15_wp:=wp_of c28_15.eq_1
def c28:AFn:=⟨26,[.t 6],c28_15⟩
theorem c28_ok:compF Tryz.prog Tryz.f28=some c28:=by kernel_rfl
theorem a28 {args:List AV} {σ:ASt} {R:AV->ASt->Prop} (hl:args.length<=26) (h:c28_15.wp Tryz.prog (RetQ [.t 6] R) (init args) σ):ACalls Tryz.prog 28 args σ R:=acalls_of Tryz.func28 c28_ok hl h
/-! 29: tabular/texts.part -/
def c29_5:ACode := .seq (.ops [ oq 6 (.mv (.v (.str [])))]) (.seq (.ops [ oq 7 (.mv (.t 0)),oq 8 (.mv (.t 0)),oq 9 (.mv (.t 1)),oe 10 (.call 47 [(.t 8),(.t 9)]),oq 11 (.slfrom (true,0) (.t 7) (.t 10)),oq 0 (.mv (.t 11))]) (.seq (.ops [ oq 12 (.mv (.t 0)),oq 13 (.mv (.t 0)),oq 14 (.mv (.t 2)),oe 15 (.call 47 [(.t 13),(.t 14)]),oq 16 (.slto (true,0) (.t 12) (.t 15)),oq 6 (.mv (.t 16))]) .ret))
@[go_sem] def c29_5_wp:=wp_of c29_5.eq_1
def c29:AFn:=⟨17,[.t 6],c29_5⟩
theorem c29_ok:compF Tryz.prog Tryz.f29=some c29:=by kernel_rfl
theorem a29 {args:List AV} {σ:ASt} {R:AV->ASt->Prop} (hl:args.length<=17) (h:c29_5.wp Tryz.prog (RetQ [.t 6] R) (init args) σ):ACalls Tryz.prog 29 args σ R:=acalls_of Tryz.func29 c29_ok hl h
/-! 57: tabular/texts.lower -/
def c57_15:ACode := .seq (.ops [ oq 11 (.bin .lss (.t 10) (.t 9))]) (.seq (.cond (.t 11) .skip (.exit 0)) (.seq (.block 1 (.seq (.ops [ oq 12 (.mv (.t 10)),oq 13 (.ia 1 (.t 8) (.t 10)),oq 14 (.ld none (.t 13)),oq 4 (.mv (.t 12)),oq 5 (.mv (.t 14))]) (.seq (.ops [ oq 15 (.mv (.t 5)),oq 16 (.bin .geq (.t 15) (.v (.int .u8 65))),oq 17 (.mv (.t 16)),⟨some 18,some (17,true),.q (.mv (.t 5)),[]⟩,⟨some 19,some (17,true),.q (.bin .leq (.t 18) (.v (.int .u8 90))),[]⟩,oq 20 (.pick (.t 17) (.t 19) (.v (.bool false)))]) (.cond (.t 20) (.ops [ oq 21 (.mv (.t 3)),oq 22 (.mv (.t 4)),oq 23 (.mv (.t 5)),oq 24 (.bin .add (.t 23) (.v (.int .u8 32))),oq 25 (.ia 1 (.t 21) (.t 22)),oz (.store 1 (.t 25) (.t 24))]) .skip)))) (.ops [ oq 26 (.bin .add (.t 10) (.v (.int .i64 1))),oq 10 (.mv (.t 26))])))
def c57_23:ACode := .seq (.ops [ oq 2 (.mv (.v (.str [])))]) (.seq (.ops [ oq 6 (.mv (.t 0)),oe 7 (.s2b (.t 6)),oq 3 (.mv (.t 7))]) (.seq (.seq (.ops [ oq 8 (.mv (.t 3)),oq 9 (.len (.t 8)),oq 10 (.mv (.v (.int .i64 0)))]) (.block 0 (.loop c57_15))) (.seq (.ops [ oq 27 (.mv (.t 3)),oq 28 (.b2s (.t 27)),oq 2 (.mv (.t 28))]) .ret)))
@[go_sem] def c57_15_wp:=wp_of c57_15.eq_1
@[go_sem] def c57_23_wp:=wp_of c57_23.eq_1
def c57:AFn:=⟨29,[.t 2],c57_23⟩
theorem c57_ok:compF Tryz.prog Tryz.f57=some c57:=by kernel_rfl
theorem a57 {args:List AV} {σ:ASt} {R:AV->ASt->Prop} (hl:args.length<=29) (h:c57_23.wp Tryz.prog (RetQ [.t 2] R) (init args) σ):ACalls Tryz.prog 57 args σ R:=acalls_of Tryz.func57 c57_ok hl h
/-! 79: tabular/texts.letter -/
def c79_3:ACode := .seq (.ops [ oq 2 (.mv (.v (.bool false)))]) (.seq (.ops [ oq 3 (.mv (.t 0)),oq 4 (.bin .geq (.t 3) (.v (.int .i32 65))),oq 5 (.mv (.t 4)),⟨some 6,some (5,true),.q (.mv (.t 0)),[]⟩,⟨some 7,some (5,true),.q (.bin .leq (.t 6) (.v (.int .i32 90))),[]⟩,oq 8 (.pick (.t 5) (.t 7) (.v (.bool false))),oq 9 (.mv (.t 8)),⟨some 10,some (9,false),.q (.mv (.t 0)),[]⟩,⟨some 11,some (9,false),.q (.bin .geq (.t 10) (.v (.int .i32 97))),[]⟩,⟨some 12,some (9,false),.q (.mv (.t 11)),[]⟩,⟨some 13,some (12,true),.q (.mv (.t 0)),[]⟩,⟨some 14,some (12,true),.q (.bin .leq (.t 13) (.v (.int .i32 122))),[]⟩,⟨some 15,some (9,false),.q (.pick (.t 12) (.t 14) (.v (.bool false))),[]⟩,oq 16 (.pick (.t 9) (.v (.bool true)) (.t 15)),oq 2 (.mv (.t 16))]) .ret)
@[go_sem] def c79_3_wp:=wp_of c79_3.eq_1
def c79:AFn:=⟨17,[.t 2],c79_3⟩
theorem c79_ok:compF Tryz.prog Tryz.f79=some c79:=by kernel_rfl
theorem a79 {args:List AV} {σ:ASt} {R:AV->ASt->Prop} (hl:args.length<=17) (h:c79_3.wp Tryz.prog (RetQ [.t 2] R) (init args) σ):ACalls Tryz.prog 79 args σ R:=acalls_of Tryz.func79 c79_ok hl h
end Go.A
namespace Go.A
open Go.Proofs Go.Lib
def smallC (c:UInt8):UInt8:=if 65<=c.toNat/\c.toNat<=90 then UInt8.ofNat (c.toNat+32) else c
def smallP (l:List UInt8):List UInt8:=l.map smallC
theorem smallP_len (l:List UInt8):(smallP l).length=l.length:=by simp [smallP]
theorem xlower_ok (l:List UInt8) (hl:l.length<4611686018427387904):Pure Tryz.prog 57 [.str l] (.str (smallP l)):=by
 intro σ
 refine a57 (by simp) ?_
 simp (disch:=first|assumption|omega|(simp only [List.length_append,List.length_cons,List.length_nil];omega)) only [go_sem,reduceCtorEq,Nat.reduceEqDiff,Nat.reduceAdd,Nat.reduceSub,Nat.reduceMul,Nat.reduceLeDiff,Int.reduceLT,Int.reduceLE,Int.reduceEq,↓reduceIte,Int.reduceNeg,Int.reduceAdd,Int.reduceSub,Int.reduceMul,true_imp_iff,forall_const,Nat.mul_one,Int.reduceToNat,Nat.reducePow,Int.reducePow,Bool.true_and,Bool.false_and,Bool.and_false]
 refine s2b_own fun b cp hb hcp=>?_
 simp (disch:=first|assumption|omega|(simp only [List.length_append,List.length_cons,List.length_nil];omega)) only [go_sem,reduceCtorEq,Nat.reduceEqDiff,Nat.reduceAdd,Nat.reduceSub,Nat.reduceMul,Nat.reduceLeDiff,Int.reduceLT,Int.reduceLE,Int.reduceEq,↓reduceIte,Int.reduceNeg,Int.reduceAdd,Int.reduceSub,Int.reduceMul,true_imp_iff,forall_const,Nat.mul_one,Int.reduceToNat,Nat.reducePow,Int.reducePow,Bool.true_and,Bool.false_and,Bool.and_false]
 refine wp_loop_on (fun (i:Nat) a σ'=>i<=l.length/\(a 3 = .msl b 0 l.length cp/\a 8 = .msl b 0 l.length cp/\a 9 = .int .i64 l.length/\a 10 = .int .i64 i)/\σ'=σ.set b (some (.obj (bytesAV (smallP (l.take i)++l.drop i)))))
  (fun i=>l.length-i) 0 ⟨Nat.zero_le _,?_,by simp [smallP]⟩ ?_
 ·simp (disch:=first|assumption|omega|(simp only [List.length_append,List.length_cons,List.length_nil];omega)) only [go_sem,reduceCtorEq,Nat.reduceEqDiff,Nat.reduceAdd,Nat.reduceSub,Nat.reduceMul,Nat.reduceLeDiff,Int.reduceLT,Int.reduceLE,Int.reduceEq,↓reduceIte,Int.reduceNeg,Int.reduceAdd,Int.reduceSub,Int.reduceMul,true_imp_iff,forall_const,Nat.mul_one,Int.reduceToNat,Nat.reducePow,Int.reducePow,Bool.true_and,Bool.false_and,Bool.and_false]
 rintro i a σ1 ⟨hi,hf,rfl⟩
 obtain ⟨m,hm⟩:∃ m,smallP (l.take i)++l.drop i=m:=⟨_,rfl⟩
 have hml:m.length=l.length:=by rw [<-hm];simp [smallP];omega
 have hgl:(smallP (l.take i)).length=i:=by simp [smallP];omega
 rw [hm]
 by_cases hlt:i<l.length
 ·have hidx : m[i]? = some (l[i]'hlt) := by rw [← hm, List.getElem?_append_right (by omega), hgl]; simp
  obtain ⟨c, hc⟩ : ∃ c, l[i]'hlt = c := ⟨_, rfl⟩
  rw [hc] at hidx
  have hcb:=u8_lt c
  have hi2:(i:Int)<l.length:=by omega
  have hle:i+1<=m.length:=by omega
  have hnext:smallP (l.take (i+1))++l.drop (i+1)=m.set i (smallC c):=by
   rw [<-hm,List.take_succ_eq_append_getElem hlt,hc,List.set_append_right _ _ (by omega),hgl,Nat.sub_self]
   simp only [smallP,List.map_append,List.map_cons,List.map_nil,List.append_assoc,List.singleton_append]
   rw [List.drop_eq_getElem_cons hlt]
   rfl
  by_cases hg:65<=c.toNat/\c.toNat<=90
  ·have g1:(65:Int)<=c.toNat:=by omega
   have g2:(c.toNat:Int)<=90:=by omega
   have hgc:smallC c=UInt8.ofNat (c.toNat+32):=by unfold smallC;rw [if_pos hg]
   have hw:=set_bytes (l:=m) (i:=i) (m:=(c.toNat:Int)+32) (by omega)
   have hw0:(c.toNat:Int)+32=((UInt8.ofNat (c.toNat+32)).toNat:Int):=by rw [u8_nat (by omega)];omega
   rw [hw0,bytes_set] at hw
   simp (disch:=first|assumption|omega|(simp only [List.length_append,List.length_cons,List.length_nil];omega)) only [go_sem,reduceCtorEq,Nat.reduceEqDiff,Nat.reduceAdd,Nat.reduceSub,Nat.reduceMul,Nat.reduceLeDiff,Int.reduceLT,Int.reduceLE,Int.reduceEq,↓reduceIte,Int.reduceNeg,Int.reduceAdd,Int.reduceSub,Int.reduceMul,true_imp_iff,forall_const,Nat.mul_one,Int.reduceToNat,Nat.reducePow,Int.reducePow,Bool.true_and,Bool.false_and,Bool.and_false,hf,hi2,hidx,g1,g2,hle,hw0,hw]
   refine ⟨i+1,by omega,by omega,?_,by rw [hnext,hgc]⟩
   simp (disch:=first|assumption|omega|(simp only [List.length_append,List.length_cons,List.length_nil];omega)) only [go_sem,reduceCtorEq,Nat.reduceEqDiff,Nat.reduceAdd,Nat.reduceSub,Nat.reduceMul,Nat.reduceLeDiff,Int.reduceLT,Int.reduceLE,Int.reduceEq,↓reduceIte,Int.reduceNeg,Int.reduceAdd,Int.reduceSub,Int.reduceMul,true_imp_iff,forall_const,Nat.mul_one,Int.reduceToNat,Nat.reducePow,Int.reducePow,Bool.true_and,Bool.false_and,Bool.and_false,hf]
  ·have hgc:smallC c=c:=by unfold smallC;rw [if_neg hg]
   have hms:m.set i c=m:=by
    apply List.ext_getElem?
    intro j
    rw [List.getElem?_set]
    split
    ·rename_i h;subst h;rw [hidx];split<;>first|rfl|omega
    ·rfl
   by_cases g1:(65:Int)<=c.toNat
   ·have g2:¬ (c.toNat:Int)<=90:=by omega
    simp (disch:=first|assumption|omega|(simp only [List.length_append,List.length_cons,List.length_nil];omega)) only [go_sem,reduceCtorEq,Nat.reduceEqDiff,Nat.reduceAdd,Nat.reduceSub,Nat.reduceMul,Nat.reduceLeDiff,Int.reduceLT,Int.reduceLE,Int.reduceEq,↓reduceIte,Int.reduceNeg,Int.reduceAdd,Int.reduceSub,Int.reduceMul,true_imp_iff,forall_const,Nat.mul_one,Int.reduceToNat,Nat.reducePow,Int.reducePow,Bool.true_and,Bool.false_and,Bool.and_false,hf,hi2,hidx,g1,g2]
    refine ⟨i+1,by omega,by omega,?_,by rw [hnext,hgc,hms]⟩
    simp (disch:=first|assumption|omega|(simp only [List.length_append,List.length_cons,List.length_nil];omega)) only [go_sem,reduceCtorEq,Nat.reduceEqDiff,Nat.reduceAdd,Nat.reduceSub,Nat.reduceMul,Nat.reduceLeDiff,Int.reduceLT,Int.reduceLE,Int.reduceEq,↓reduceIte,Int.reduceNeg,Int.reduceAdd,Int.reduceSub,Int.reduceMul,true_imp_iff,forall_const,Nat.mul_one,Int.reduceToNat,Nat.reducePow,Int.reducePow,Bool.true_and,Bool.false_and,Bool.and_false,hf]
   ·simp (disch:=first|assumption|omega|(simp only [List.length_append,List.length_cons,List.length_nil];omega)) only [go_sem,reduceCtorEq,Nat.reduceEqDiff,Nat.reduceAdd,Nat.reduceSub,Nat.reduceMul,Nat.reduceLeDiff,Int.reduceLT,Int.reduceLE,Int.reduceEq,↓reduceIte,Int.reduceNeg,Int.reduceAdd,Int.reduceSub,Int.reduceMul,true_imp_iff,forall_const,Nat.mul_one,Int.reduceToNat,Nat.reducePow,Int.reducePow,Bool.true_and,Bool.false_and,Bool.and_false,hf,hi2,hidx,g1]
    refine ⟨i+1,by omega,by omega,?_,by rw [hnext,hgc,hms]⟩
    simp (disch:=first|assumption|omega|(simp only [List.length_append,List.length_cons,List.length_nil];omega)) only [go_sem,reduceCtorEq,Nat.reduceEqDiff,Nat.reduceAdd,Nat.reduceSub,Nat.reduceMul,Nat.reduceLeDiff,Int.reduceLT,Int.reduceLE,Int.reduceEq,↓reduceIte,Int.reduceNeg,Int.reduceAdd,Int.reduceSub,Int.reduceMul,true_imp_iff,forall_const,Nat.mul_one,Int.reduceToNat,Nat.reducePow,Int.reducePow,Bool.true_and,Bool.false_and,Bool.and_false,hf]
 ·have e:smallP (l.take i)++l.drop i=smallP l:=by rw [List.take_of_length_le (by omega),List.drop_of_length_le (by omega),List.append_nil]
  have hi2:¬ (i:Int)<l.length:=by omega
  rw [e] at hm
  subst hm
  have hb2:bytesOf ((bytesAV (smallP l)).take l.length)=some (smallP l):=by
   rw [List.take_of_length_le (by simp [bytesAV,smallP])]
   exact bytesOf_bytesAV _
  simp (disch:=first|assumption|omega|(simp only [List.length_append,List.length_cons,List.length_nil];omega)) only [go_sem,reduceCtorEq,Nat.reduceEqDiff,Nat.reduceAdd,Nat.reduceSub,Nat.reduceMul,Nat.reduceLeDiff,Int.reduceLT,Int.reduceLE,Int.reduceEq,↓reduceIte,Int.reduceNeg,Int.reduceAdd,Int.reduceSub,Int.reduceMul,true_imp_iff,forall_const,Nat.mul_one,Int.reduceToNat,Nat.reducePow,Int.reducePow,Bool.true_and,Bool.false_and,Bool.and_false,hf,hi2,hml,hb2,Nat.le_refl]
  exact retC_by (Drop.set hb) (.refl _) ⟨rfl,rfl⟩
def letterB (c:Int):Bool:=decide ((65<=c/\c<=90)\/(97<=c/\c<=122))
theorem xletter_ok (c:Int):Pure Tryz.prog 79 [.int .i32 c] (.bool (letterB c)):=by
 intro σ
 obtain ⟨R,hR⟩:∃ R,letterB c=R:=⟨_,rfl⟩
 rw [hR]
 unfold letterB at hR
 refine a79 (by simp) ?_
 by_cases h1:65<=c
 ·by_cases h2:c<=90
  ·rw [decide_eq_true (by omega)] at hR
   subst hR
   simp (disch:=first|assumption|omega|(simp only [List.length_append,List.length_cons,List.length_nil];omega)) only [go_sem,reduceCtorEq,Nat.reduceEqDiff,Nat.reduceAdd,Nat.reduceSub,Nat.reduceMul,Nat.reduceLeDiff,Int.reduceLT,Int.reduceLE,Int.reduceEq,↓reduceIte,Int.reduceNeg,Int.reduceAdd,Int.reduceSub,Int.reduceMul,true_imp_iff,forall_const,Nat.mul_one,Int.reduceToNat,Nat.reducePow,Int.reducePow,Bool.true_and,Bool.false_and,Bool.and_false,h1,h2]
   exact retC_by (.refl _) (.refl _) ⟨rfl,rfl⟩
  ·by_cases h3:97<=c
   ·by_cases h4:c<=122
    ·rw [decide_eq_true (by omega)] at hR
     subst hR
     simp (disch:=first|assumption|omega|(simp only [List.length_append,List.length_cons,List.length_nil];omega)) only [go_sem,reduceCtorEq,Nat.reduceEqDiff,Nat.reduceAdd,Nat.reduceSub,Nat.reduceMul,Nat.reduceLeDiff,Int.reduceLT,Int.reduceLE,Int.reduceEq,↓reduceIte,Int.reduceNeg,Int.reduceAdd,Int.reduceSub,Int.reduceMul,true_imp_iff,forall_const,Nat.mul_one,Int.reduceToNat,Nat.reducePow,Int.reducePow,Bool.true_and,Bool.false_and,Bool.and_false,h1,h2,h3,h4]
     exact retC_by (.refl _) (.refl _) ⟨rfl,rfl⟩
    ·rw [decide_eq_false (by omega)] at hR
     subst hR
     simp (disch:=first|assumption|omega|(simp only [List.length_append,List.length_cons,List.length_nil];omega)) only [go_sem,reduceCtorEq,Nat.reduceEqDiff,Nat.reduceAdd,Nat.reduceSub,Nat.reduceMul,Nat.reduceLeDiff,Int.reduceLT,Int.reduceLE,Int.reduceEq,↓reduceIte,Int.reduceNeg,Int.reduceAdd,Int.reduceSub,Int.reduceMul,true_imp_iff,forall_const,Nat.mul_one,Int.reduceToNat,Nat.reducePow,Int.reducePow,Bool.true_and,Bool.false_and,Bool.and_false,h1,h2,h3,h4]
     exact retC_by (.refl _) (.refl _) ⟨rfl,rfl⟩
   ·rw [decide_eq_false (by omega)] at hR
    subst hR
    simp (disch:=first|assumption|omega|(simp only [List.length_append,List.length_cons,List.length_nil];omega)) only [go_sem,reduceCtorEq,Nat.reduceEqDiff,Nat.reduceAdd,Nat.reduceSub,Nat.reduceMul,Nat.reduceLeDiff,Int.reduceLT,Int.reduceLE,Int.reduceEq,↓reduceIte,Int.reduceNeg,Int.reduceAdd,Int.reduceSub,Int.reduceMul,true_imp_iff,forall_const,Nat.mul_one,Int.reduceToNat,Nat.reducePow,Int.reducePow,Bool.true_and,Bool.false_and,Bool.and_false,h1,h2,h3]
    exact retC_by (.refl _) (.refl _) ⟨rfl,rfl⟩
 ·have h3:¬ 97<=c:=by omega
  rw [decide_eq_false (by omega)] at hR
  subst hR
  simp (disch:=first|assumption|omega|(simp only [List.length_append,List.length_cons,List.length_nil];omega)) only [go_sem,reduceCtorEq,Nat.reduceEqDiff,Nat.reduceAdd,Nat.reduceSub,Nat.reduceMul,Nat.reduceLeDiff,Int.reduceLT,Int.reduceLE,Int.reduceEq,↓reduceIte,Int.reduceNeg,Int.reduceAdd,Int.reduceSub,Int.reduceMul,true_imp_iff,forall_const,Nat.mul_one,Int.reduceToNat,Nat.reducePow,Int.reducePow,Bool.true_and,Bool.false_and,Bool.and_false,h1,h3]
  exact retC_by (.refl _) (.refl _) ⟨rfl,rfl⟩
def partP (s:List UInt8) (f n:Int):List UInt8:=((s.drop (skipP s f)).take (skipP (s.drop (skipP s f)) n))
theorem xpart_ok (s:List UInt8) (f n:Int) (hs:s.length<4611686018427387904):Pure Tryz.prog 29 [.str s,.int .i64 f,.int .i64 n] (.str (partP s f n)):=by
 intro σ
 have h1:=xskip_ok s f hs
 have h2:=xskip_ok (s.drop (skipP s f)) n (by rw [List.length_drop];omega)
 have k1:=skipP_le s f
 have k2:=skipP_le (s.drop (skipP s f)) n
 unfold partP
 generalize skipP (s.drop (skipP s f)) n=B at *
 generalize skipP s f=A at *
 have k3:(B:Int)<=((List.drop A s).length:Int):=by omega
 refine a29 (by simp) ?_
 simp (disch:=first|assumption|omega|(simp only [List.length_append,List.length_cons,List.length_nil];omega)) only [go_sem,reduceCtorEq,Nat.reduceEqDiff,Nat.reduceAdd,Nat.reduceSub,Nat.reduceMul,Nat.reduceLeDiff,Int.reduceLT,Int.reduceLE,Int.reduceEq,↓reduceIte,Int.reduceNeg,Int.reduceAdd,Int.reduceSub,Int.reduceMul,true_imp_iff,forall_const,Nat.mul_one,Int.reduceToNat,Nat.reducePow,Int.reducePow,Bool.true_and,Bool.false_and,Bool.and_false]
 refine h1.use ?_
 simp (disch:=first|assumption|omega|(simp only [List.length_append,List.length_cons,List.length_nil];omega)) only [go_sem,reduceCtorEq,Nat.reduceEqDiff,Nat.reduceAdd,Nat.reduceSub,Nat.reduceMul,Nat.reduceLeDiff,Int.reduceLT,Int.reduceLE,Int.reduceEq,↓reduceIte,Int.reduceNeg,Int.reduceAdd,Int.reduceSub,Int.reduceMul,true_imp_iff,forall_const,Nat.mul_one,Int.reduceToNat,Nat.reducePow,Int.reducePow,Bool.true_and,Bool.false_and,Bool.and_false,List.length_drop,List.take_length]
 refine h2.use ?_
 simp (disch:=first|assumption|omega|(simp only [List.length_append,List.length_cons,List.length_nil];omega)) only [go_sem,reduceCtorEq,Nat.reduceEqDiff,Nat.reduceAdd,Nat.reduceSub,Nat.reduceMul,Nat.reduceLeDiff,Int.reduceLT,Int.reduceLE,Int.reduceEq,↓reduceIte,Int.reduceNeg,Int.reduceAdd,Int.reduceSub,Int.reduceMul,true_imp_iff,forall_const,Nat.mul_one,Int.reduceToNat,Nat.reducePow,Int.reducePow,Bool.true_and,Bool.false_and,Bool.and_false,List.length_drop,List.take_length]
 exact retC_by (.refl _) (.refl _) ⟨rfl,rfl⟩
def sidesP (name s:List UInt8) (n:Int):PV:=
 if n<0 then .fail 3 else if name = [76,69,70,84] then .text (partP s 0 n) else .text (s.drop (skipP s (max ((pcs s).length-n) 0)))
theorem xsides_ok (name s:List UInt8) (n:Int) (hn:n<=9000000000000000000) (hs:s.length<4611686018427387904):Pure Tryz.prog 28 [.str name,.str s,.int .i64 n] (sidesP name s n).av:=by
 intro σ
 have h1:=xpart_ok s 0 n hs
 have h2:=xcount_ok s (by omega)
 have hl:=pcs_len s
 have h3:=xskip_ok s (max ((pcs s).length-n) 0) hs
 have k3:=skipP_le s (max ((pcs s).length-n) 0)
 obtain ⟨R,hR⟩:∃ R,sidesP name s n=R:=⟨_,rfl⟩
 rw [hR]
 unfold sidesP at hR
 generalize skipP s (max ((pcs s).length-n) 0)=B at *
 generalize partP s 0 n=W at *
 generalize (pcs s).length=M at *
 refine a28 (by simp) ?_
 by_cases c1:n<0
 ·rw [if_pos c1] at hR
  subst hR
  simp only [PV.av]
  simp (disch:=first|assumption|omega|(simp only [List.length_append,List.length_cons,List.length_nil];omega)) only [go_sem,reduceCtorEq,Nat.reduceEqDiff,Nat.reduceAdd,Nat.reduceSub,Nat.reduceMul,Nat.reduceLeDiff,Int.reduceLT,Int.reduceLE,Int.reduceEq,↓reduceIte,Int.reduceNeg,Int.reduceAdd,Int.reduceSub,Int.reduceMul,true_imp_iff,forall_const,Nat.mul_one,Int.reduceToNat,Nat.reducePow,Int.reducePow,Bool.true_and,Bool.false_and,Bool.and_false,c1]
  exact retC_by (.refl _) (.refl _) ⟨rfl,rfl⟩
 ·rw [if_neg c1] at hR
  by_cases c2:name = [76,69,70,84]
  ·rw [if_pos c2] at hR
   subst hR c2
   simp only [PV.av]
   simp (disch:=first|assumption|omega|(simp only [List.length_append,List.length_cons,List.length_nil];omega)) only [go_sem,reduceCtorEq,Nat.reduceEqDiff,Nat.reduceAdd,Nat.reduceSub,Nat.reduceMul,Nat.reduceLeDiff,Int.reduceLT,Int.reduceLE,Int.reduceEq,↓reduceIte,Int.reduceNeg,Int.reduceAdd,Int.reduceSub,Int.reduceMul,true_imp_iff,forall_const,Nat.mul_one,Int.reduceToNat,Nat.reducePow,Int.reducePow,Bool.true_and,Bool.false_and,Bool.and_false,c1]
   refine h1.use ?_
   simp (disch:=first|assumption|omega|(simp only [List.length_append,List.length_cons,List.length_nil];omega)) only [go_sem,reduceCtorEq,Nat.reduceEqDiff,Nat.reduceAdd,Nat.reduceSub,Nat.reduceMul,Nat.reduceLeDiff,Int.reduceLT,Int.reduceLE,Int.reduceEq,↓reduceIte,Int.reduceNeg,Int.reduceAdd,Int.reduceSub,Int.reduceMul,true_imp_iff,forall_const,Nat.mul_one,Int.reduceToNat,Nat.reducePow,Int.reducePow,Bool.true_and,Bool.false_and,Bool.and_false]
   exact retC_by (.refl _) (.refl _) ⟨rfl,rfl⟩
  ·rw [if_neg c2] at hR
   subst hR
   simp only [PV.av]
   simp (disch:=first|assumption|omega|(simp only [List.length_append,List.length_cons,List.length_nil];omega)) only [go_sem,reduceCtorEq,Nat.reduceEqDiff,Nat.reduceAdd,Nat.reduceSub,Nat.reduceMul,Nat.reduceLeDiff,Int.reduceLT,Int.reduceLE,Int.reduceEq,↓reduceIte,Int.reduceNeg,Int.reduceAdd,Int.reduceSub,Int.reduceMul,true_imp_iff,forall_const,Nat.mul_one,Int.reduceToNat,Nat.reducePow,Int.reducePow,Bool.true_and,Bool.false_and,Bool.and_false,c1,c2]
   refine h2.use ?_
   simp (disch:=first|assumption|omega|(simp only [List.length_append,List.length_cons,List.length_nil];omega)) only [go_sem,reduceCtorEq,Nat.reduceEqDiff,Nat.reduceAdd,Nat.reduceSub,Nat.reduceMul,Nat.reduceLeDiff,Int.reduceLT,Int.reduceLE,Int.reduceEq,↓reduceIte,Int.reduceNeg,Int.reduceAdd,Int.reduceSub,Int.reduceMul,true_imp_iff,forall_const,Nat.mul_one,Int.reduceToNat,Nat.reducePow,Int.reducePow,Bool.true_and,Bool.false_and,Bool.and_false]
   refine h3.use ?_
   simp (disch:=first|assumption|omega|(simp only [List.length_append,List.length_cons,List.length_nil];omega)) only [go_sem,reduceCtorEq,Nat.reduceEqDiff,Nat.reduceAdd,Nat.reduceSub,Nat.reduceMul,Nat.reduceLeDiff,Int.reduceLT,Int.reduceLE,Int.reduceEq,↓reduceIte,Int.reduceNeg,Int.reduceAdd,Int.reduceSub,Int.reduceMul,true_imp_iff,forall_const,Nat.mul_one,Int.reduceToNat,Nat.reducePow,Int.reducePow,Bool.true_and,Bool.false_and,Bool.and_false,List.take_length]
   exact retC_by (.refl _) (.refl _) ⟨rfl,rfl⟩
end Go.A
namespace Go.A
open Go.Proofs
/-! 35: tabular/texts.replace -/
/-! 41: tabular/value.AsInt -/
def c41_5:ACode := .seq (.ops [ oq 2 (.mv (.v (.int .i64 0))),oq 3 (.mv (.v (.int .i64 0)))]) (.seq (.ops [ oq 7 (.mv (.t 0)),oe 8 (.call 23 [(.t 7)]),oq 6 (.mv (.t 8)),oq 9 (.ext 0 (.t 6)),oq 10 (.ext 1 (.t 6)),oq 4 (.mv (.t 9)),oq 5 (.mv (.t 10))]) (.seq (.ops [ oq 11 (.mv (.t 4)),oe 12 (.call 66 [(.t 11)]),oq 13 (.mv (.t 5)),oq 2 (.mv (.t 12)),oq 3 (.mv (.t 13))]) .ret))
@[go_sem] def c41_5_wp:=wp_of c41_5.eq_1
def c41:AFn:=⟨14,[.t 2,.t 3],c41_5⟩
theorem c41_ok:compF Tryz.prog Tryz.f41=some c41:=by kernel_rfl
theorem a41 {args:List AV} {σ:ASt} {R:AV->ASt->Prop} (hl:args.length<=14) (h:c41_5.wp Tryz.prog (RetQ [.t 2,.t 3] R) (init args) σ):ACalls Tryz.prog 41 args σ R:=acalls_of Tryz.func41 c41_ok hl h
/-! 42: tabular/value.Made -/
/-! 52: tabular/deci.Int -/
end Go.A
namespace Go.A
open Go.Proofs Go.Lib
def asIntV (v:PV):Int×Int:=((asNum v).1.tdiv 10000,(asNum v).2)
theorem xparseQ_rng {m d:Bool} {w p:List UInt8} {v:Int} (h:parseQ m w p d=some v):v.natAbs<=999999999999999999:=by
 unfold parseQ at h
 split at h
 ·cases h
 ·obtain ⟨n,_,hn⟩:=Option.bind_eq_some_iff.1 h
  unfold madeP at hn
  split at hn
  ·injection hn with hn
   split at hn<;>omega
  ·cases hn
theorem xparseD_rng {s:List UInt8} {v:Int} (h:parseD s=some v):v.natAbs<=999999999999999999:=xparseQ_rng h
theorem asNum_rng (v:PV) (hv:v.good):(asNum v).1.natAbs<=999999999999999999:=by
 cases v with
 | num n=>exact hv
 | text s=>
   simp only [asNum]
   cases h:parseD (Lib.trimB s 32) with
   | none=>decide
   | some n=>exact xparseD_rng h
 | blank=>decide
 | bool b=>cases b<;>decide
 | fail n=>show (0:Int).natAbs<=_;decide
theorem asint_ok (v:PV) (hv:v.small) (hg:v.good):Pure Tryz.prog 41 [v.av] (.tuple [.int .i64 (asIntV v).1,.int .i64 (asIntV v).2]):=by
 intro σ
 have h:=asNumber_ok v hv
 unfold asIntV
 have hr:=asNum_rng v hg
 have hw:∀ n:Int,n.natAbs<=999999999999999999->Pure Tryz.prog 66 [.int .i64 n] (.int .i64 (n.tdiv 10000)):=fun n hn σ=>by
  have hd:(n.tdiv 10000).natAbs<=n.natAbs:=by rw [Int.natAbs_tdiv];exact Nat.div_le_self _ _
  have hd3 : -9223372036854775808<=n.tdiv 10000/\n.tdiv 10000<=9223372036854775807:=by omega
  obtain ⟨hd4,hd5⟩:=hd3
  refine a66 (by simp) ?_
  simp (disch:=first|assumption|omega|(simp only [List.length_append,List.length_cons,List.length_nil];omega)) only [go_sem,reduceCtorEq,Nat.reduceEqDiff,Nat.reduceAdd,Nat.reduceSub,Nat.reduceMul,Nat.reduceLeDiff,Int.reduceLT,Int.reduceLE,Int.reduceEq,↓reduceIte,Int.reduceNeg,Int.reduceAdd,Int.reduceSub,Int.reduceMul,true_imp_iff,forall_const,Nat.mul_one,Int.reduceToNat,Nat.reducePow,Int.reducePow,Bool.true_and,Bool.false_and,Bool.and_false]
  exact retC_by (.refl _) (.refl _) ⟨rfl,rfl⟩
 generalize asNum v=w at *
 generalize v.av=x at *
 refine a41 (by simp) ?_
 simp (disch:=first|assumption|omega|(simp only [List.length_append,List.length_cons,List.length_nil];omega)) only [go_sem,reduceCtorEq,Nat.reduceEqDiff,Nat.reduceAdd,Nat.reduceSub,Nat.reduceMul,Nat.reduceLeDiff,Int.reduceLT,Int.reduceLE,Int.reduceEq,↓reduceIte,Int.reduceNeg,Int.reduceAdd,Int.reduceSub,Int.reduceMul,true_imp_iff,forall_const,Nat.mul_one,Int.reduceToNat,Nat.reducePow,Int.reducePow,Bool.true_and,Bool.false_and,Bool.and_false]
 refine h.use ?_
 simp (disch:=first|assumption|omega|(simp only [List.length_append,List.length_cons,List.length_nil];omega)) only [go_sem,reduceCtorEq,Nat.reduceEqDiff,Nat.reduceAdd,Nat.reduceSub,Nat.reduceMul,Nat.reduceLeDiff,Int.reduceLT,Int.reduceLE,Int.reduceEq,↓reduceIte,Int.reduceNeg,Int.reduceAdd,Int.reduceSub,Int.reduceMul,true_imp_iff,forall_const,Nat.mul_one,Int.reduceToNat,Nat.reducePow,Int.reducePow,Bool.true_and,Bool.false_and,Bool.and_false]
 refine (hw _ hr).use ?_
 simp (disch:=first|assumption|omega|(simp only [List.length_append,List.length_cons,List.length_nil];omega)) only [go_sem,reduceCtorEq,Nat.reduceEqDiff,Nat.reduceAdd,Nat.reduceSub,Nat.reduceMul,Nat.reduceLeDiff,Int.reduceLT,Int.reduceLE,Int.reduceEq,↓reduceIte,Int.reduceNeg,Int.reduceAdd,Int.reduceSub,Int.reduceMul,true_imp_iff,forall_const,Nat.mul_one,Int.reduceToNat,Nat.reducePow,Int.reducePow,Bool.true_and,Bool.false_and,Bool.and_false]
 exact retC_by (.refl _) (.refl _) ⟨rfl,rfl⟩
end Go.A
namespace Go.A
open Go.Proofs
/-! 20: tabular/texts.sign -/
/-! 21: (*tabular/texts.reader).int -/
def c21_16:ACode := .seq (.ops [ oq 6 (.mv (.v (.int .i64 0)))]) (.seq (.seq (.ops [ oq 9 (.mv (.t 0)),oq 10 (.mv (.t 1)),oe 11 (.call 33 [(.t 9),(.t 10)]),oq 12 (.un .not (.t 11))]) (.cond (.t 12) (.seq (.ops [ oq 13 (.mv (.t 2)),oq 6 (.mv (.t 13))]) .ret) .skip)) (.seq (.ops [ oq 15 (.mv (.t 0)),oq 16 (.nc (.t 15)),oq 17 (.fa 0 (.t 16)),oq 18 (.ld none (.t 17)),oq 19 (.mv (.t 1)),oq 20 (.ia 4 (.t 18) (.t 19)),oq 21 (.ld (some 4) (.t 20)),oe 22 (.call 24 [(.t 21)]),oe 23 (.call 41 [(.t 22)]),oq 14 (.mv (.t 23)),oq 24 (.ext 0 (.t 14)),oq 25 (.ext 1 (.t 14)),oq 7 (.mv (.t 24)),oq 8 (.mv (.t 25))]) (.seq (.seq (.ops [ oq 26 (.mv (.t 0)),oq 27 (.nc (.t 26)),oq 28 (.fa 1 (.t 27)),oq 29 (.ld none (.t 28)),oq 30 (.bin .eql (.t 29) (.v (.int .i64 0)))]) (.cond (.t 30) (.ops [ oq 31 (.mv (.t 0)),oq 32 (.mv (.t 8)),oq 33 (.nc (.t 31)),oq 34 (.fa 1 (.t 33)),oz (.store 1 (.t 34) (.t 32))]) .skip)) (.seq (.ops [ oq 35 (.mv (.t 7)),oq 36 (.mnx false (.t 35) (.v (.int .i64 2000000))),oq 37 (.mnx true (.t 36) (.v (.int .i64 (-2000000)))),oq 6 (.mv (.t 37))]) .ret))))
@[go_sem] def c21_16_wp:=wp_of c21_16.eq_1
def c21:AFn:=⟨38,[.t 6],c21_16⟩
theorem c21_ok:compF Tryz.prog Tryz.f21=some c21:=by kernel_rfl
theorem a21 {args:List AV} {σ:ASt} {R:AV->ASt->Prop} (hl:args.length<=38) (h:c21_16.wp Tryz.prog (RetQ [.t 6] R) (init args) σ):ACalls Tryz.prog 21 args σ R:=acalls_of Tryz.func21 c21_ok hl h
/-! 27: (*tabular/texts.reader).text -/
def c27_10:ACode := .seq (.ops [ oq 4 (.mv (.v (.str [])))]) (.seq (.ops [ oq 8 (.mv (.t 0)),oq 9 (.nc (.t 8)),oq 10 (.fa 0 (.t 9)),oq 11 (.ld none (.t 10)),oq 12 (.mv (.t 1)),oq 13 (.ia 4 (.t 11) (.t 12)),oq 14 (.ld (some 4) (.t 13)),oe 15 (.call 24 [(.t 14)]),oe 16 (.call 19 [(.t 15)]),oq 7 (.mv (.t 16)),oq 17 (.ext 0 (.t 7)),oq 18 (.ext 1 (.t 7)),oq 5 (.mv (.t 17)),oq 6 (.mv (.t 18))]) (.seq (.seq (.ops [ oq 19 (.mv (.t 0)),oq 20 (.nc (.t 19)),oq 21 (.fa 1 (.t 20)),oq 22 (.ld none (.t 21)),oq 23 (.bin .eql (.t 22) (.v (.int .i64 0)))]) (.cond (.t 23) (.ops [ oq 24 (.mv (.t 0)),oq 25 (.mv (.t 6)),oq 26 (.nc (.t 24)),oq 27 (.fa 1 (.t 26)),oz (.store 1 (.t 27) (.t 25))]) .skip)) (.seq (.ops [ oq 28 (.mv (.t 5)),oq 4 (.mv (.t 28))]) .ret)))
@[go_sem] def c27_10_wp:=wp_of c27_10.eq_1
def c27:AFn:=⟨29,[.t 4],c27_10⟩
theorem c27_ok:compF Tryz.prog Tryz.f27=some c27:=by kernel_rfl
theorem a27 {args:List AV} {σ:ASt} {R:AV->ASt->Prop} (hl:args.length<=29) (h:c27_10.wp Tryz.prog (RetQ [.t 4] R) (init args) σ):ACalls Tryz.prog 27 args σ R:=acalls_of Tryz.func27 c27_ok hl h
/-! 33: (*tabular/texts.reader).has -/
def c33_3:ACode := .seq (.ops [ oq 4 (.mv (.v (.bool false)))]) (.seq (.ops [ oq 5 (.mv (.t 1)),oq 6 (.mv (.t 0)),oq 7 (.nc (.t 6)),oq 8 (.fa 0 (.t 7)),oq 9 (.ld none (.t 8)),oq 10 (.len (.t 9)),oq 11 (.bin .lss (.t 5) (.t 10)),oq 4 (.mv (.t 11))]) .ret)
@[go_sem] def c33_3_wp:=wp_of c33_3.eq_1
def c33:AFn:=⟨12,[.t 4],c33_3⟩
theorem c33_ok:compF Tryz.prog Tryz.f33=some c33:=by kernel_rfl
theorem a33 {args:List AV} {σ:ASt} {R:AV->ASt->Prop} (hl:args.length<=12) (h:c33_3.wp Tryz.prog (RetQ [.t 4] R) (init args) σ):ACalls Tryz.prog 33 args σ R:=acalls_of Tryz.func33 c33_ok hl h
/-! 60: tabular/texts.code -/
end Go.A
namespace Go.A
open Go.Proofs Go.Lib
theorem xarg_get {L:List PV} {i:Nat} {v:PV} (h:L[i]? = some v):(L.map argAV)[i]? = some (.agg [.int .i64 1,.int .i64 1,.bool false,.sl .full [v.av]]):=by rw [List.getElem?_map,h];rfl
theorem xset_self {σ:ASt} {b:Nat} {r:Option Role} (h:σ b=r):σ.set b r=σ:=by
 funext x
 simp only [ASt.set]
 split
 ·rename_i e;rw [e,h]
 ·rfl
def rdO (L:List PV) (f:Int):Option Role:=some (.obj [.sl .shr (L.map argAV),.int .i64 f])
def seen (f g:Int):Int:=if f=0 then g else f
theorem xrtext_ok {σ:ASt} {b:Nat} {L:List PV} {f:Int} (hT:Tab σ) (hb:σ b=rdO L f) (i:Nat) {v:PV} (hi:L[i]? = some v) (hg:v.good) :
  ACalls Tryz.prog 27 [.ptr b 0,.int .i64 i] σ fun r σ'=>r = .str (asTextP v).1/\σ'=σ.set b (rdO L (seen f (asTextP v).2)):=by
 have h1:=argval_ok v
 have h2:=asText_ok hT v hg
 have h3:=xarg_get hi
 unfold argAV at h1
 unfold rdO at hb ⊢
 generalize hLA:L.map argAV=LA at *
 generalize asTextP v=w at *
 have hav:=PV.av_cells v
 have han:=PV.av_any v
 generalize v.av=x at *
 refine a27 (by simp) ?_
 simp (disch:=first|assumption|omega|(simp only [List.length_append,List.length_cons,List.length_nil];omega)) only [go_sem,reduceCtorEq,Nat.reduceEqDiff,Nat.reduceAdd,Nat.reduceSub,Nat.reduceMul,Nat.reduceLeDiff,Int.reduceLT,Int.reduceLE,Int.reduceEq,↓reduceIte,Int.reduceNeg,Int.reduceAdd,Int.reduceSub,Int.reduceMul,true_imp_iff,forall_const,Nat.mul_one,Int.reduceToNat,Nat.reducePow,Int.reducePow,Bool.true_and,Bool.false_and,Bool.and_false,hb,h3,hav,han]
 refine h1.use ?_
 simp (disch:=first|assumption|omega|(simp only [List.length_append,List.length_cons,List.length_nil];omega)) only [go_sem,reduceCtorEq,Nat.reduceEqDiff,Nat.reduceAdd,Nat.reduceSub,Nat.reduceMul,Nat.reduceLeDiff,Int.reduceLT,Int.reduceLE,Int.reduceEq,↓reduceIte,Int.reduceNeg,Int.reduceAdd,Int.reduceSub,Int.reduceMul,true_imp_iff,forall_const,Nat.mul_one,Int.reduceToNat,Nat.reducePow,Int.reducePow,Bool.true_and,Bool.false_and,Bool.and_false]
 refine h2.mono ?_
 rintro r σ' ⟨rfl,rfl⟩
 unfold seen
 by_cases hf:f=0
 ·rw [if_pos hf]
  simp (disch:=first|assumption|omega|(simp only [List.length_append,List.length_cons,List.length_nil];omega)) only [go_sem,reduceCtorEq,Nat.reduceEqDiff,Nat.reduceAdd,Nat.reduceSub,Nat.reduceMul,Nat.reduceLeDiff,Int.reduceLT,Int.reduceLE,Int.reduceEq,↓reduceIte,Int.reduceNeg,Int.reduceAdd,Int.reduceSub,Int.reduceMul,true_imp_iff,forall_const,Nat.mul_one,Int.reduceToNat,Nat.reducePow,Int.reducePow,Bool.true_and,Bool.false_and,Bool.and_false,hb,hf]
  exact retC_by (.refl _) (.refl _) ⟨rfl,rfl⟩
 ·rw [if_neg hf]
  simp (disch:=first|assumption|omega|(simp only [List.length_append,List.length_cons,List.length_nil];omega)) only [go_sem,reduceCtorEq,Nat.reduceEqDiff,Nat.reduceAdd,Nat.reduceSub,Nat.reduceMul,Nat.reduceLeDiff,Int.reduceLT,Int.reduceLE,Int.reduceEq,↓reduceIte,Int.reduceNeg,Int.reduceAdd,Int.reduceSub,Int.reduceMul,true_imp_iff,forall_const,Nat.mul_one,Int.reduceToNat,Nat.reducePow,Int.reducePow,Bool.true_and,Bool.false_and,Bool.and_false,hb,hf]
  exact retC_by (.refl _) (.refl _) ⟨rfl,(xset_self hb).symm⟩
def clampP (n:Int):Int:=max (min n 2000000) (-2000000)
theorem xrhas_ok {σ:ASt} {b:Nat} {L:List PV} {f:Int} (hb:σ b=rdO L f) (i:Nat) :
  ACalls Tryz.prog 33 [.ptr b 0,.int .i64 i] σ fun r σ'=>r = .bool (decide (i<L.length))/\σ'=σ:=by
 unfold rdO at hb
 have hl:(L.map argAV).length=L.length:=List.length_map _
 generalize L.map argAV=LA at *
 refine a33 (by simp) ?_
 by_cases h:i<L.length
 ·have h':(i:Int)<L.length:=by omega
  rw [decide_eq_true h]
  simp (disch:=first|assumption|omega|(simp only [List.length_append,List.length_cons,List.length_nil];omega)) only [go_sem,reduceCtorEq,Nat.reduceEqDiff,Nat.reduceAdd,Nat.reduceSub,Nat.reduceMul,Nat.reduceLeDiff,Int.reduceLT,Int.reduceLE,Int.reduceEq,↓reduceIte,Int.reduceNeg,Int.reduceAdd,Int.reduceSub,Int.reduceMul,true_imp_iff,forall_const,Nat.mul_one,Int.reduceToNat,Nat.reducePow,Int.reducePow,Bool.true_and,Bool.false_and,Bool.and_false,hb,hl,h']
  exact retC_by (.refl _) (.refl _) ⟨rfl,rfl⟩
 ·have h':¬ (i:Int)<L.length:=by omega
  rw [decide_eq_false h]
  simp (disch:=first|assumption|omega|(simp only [List.length_append,List.length_cons,List.length_nil];omega)) only [go_sem,reduceCtorEq,Nat.reduceEqDiff,Nat.reduceAdd,Nat.reduceSub,Nat.reduceMul,Nat.reduceLeDiff,Int.reduceLT,Int.reduceLE,Int.reduceEq,↓reduceIte,Int.reduceNeg,Int.reduceAdd,Int.reduceSub,Int.reduceMul,true_imp_iff,forall_const,Nat.mul_one,Int.reduceToNat,Nat.reducePow,Int.reducePow,Bool.true_and,Bool.false_and,Bool.and_false,hb,hl,h']
  exact retC_by (.refl _) (.refl _) ⟨rfl,rfl⟩
theorem xrint_ok {σ:ASt} {b:Nat} {L:List PV} {f:Int} (hb:σ b=rdO L f) (i:Nat) (o:Int) {v:PV} (hi:L[i]? = some v) (hg:v.good) (hs:v.small) :
  ACalls Tryz.prog 21 [.ptr b 0,.int .i64 i,.int .i64 o] σ fun r σ'=>r = .int .i64 (clampP (asIntV v).1)/\σ'=σ.set b (rdO L (seen f (asIntV v).2)):=by
 have h0:=xrhas_ok hb i
 rw [decide_eq_true (List.getElem?_eq_some_iff.1 hi).1] at h0
 have h1:=argval_ok v
 have h2:=asint_ok v hs hg
 have h3:=xarg_get hi
 unfold argAV at h1
 unfold rdO at hb ⊢
 generalize hLA:L.map argAV=LA at *
 generalize asIntV v=w at *
 have hav:=PV.av_cells v
 have han:=PV.av_any v
 generalize v.av=x at *
 refine a21 (by simp) ?_
 simp (disch:=first|assumption|omega|(simp only [List.length_append,List.length_cons,List.length_nil];omega)) only [go_sem,reduceCtorEq,Nat.reduceEqDiff,Nat.reduceAdd,Nat.reduceSub,Nat.reduceMul,Nat.reduceLeDiff,Int.reduceLT,Int.reduceLE,Int.reduceEq,↓reduceIte,Int.reduceNeg,Int.reduceAdd,Int.reduceSub,Int.reduceMul,true_imp_iff,forall_const,Nat.mul_one,Int.reduceToNat,Nat.reducePow,Int.reducePow,Bool.true_and,Bool.false_and,Bool.and_false]
 refine h0.mono ?_
 rintro r σ' ⟨rfl,rfl⟩
 simp (disch:=first|assumption|omega|(simp only [List.length_append,List.length_cons,List.length_nil];omega)) only [go_sem,reduceCtorEq,Nat.reduceEqDiff,Nat.reduceAdd,Nat.reduceSub,Nat.reduceMul,Nat.reduceLeDiff,Int.reduceLT,Int.reduceLE,Int.reduceEq,↓reduceIte,Int.reduceNeg,Int.reduceAdd,Int.reduceSub,Int.reduceMul,true_imp_iff,forall_const,Nat.mul_one,Int.reduceToNat,Nat.reducePow,Int.reducePow,Bool.true_and,Bool.false_and,Bool.and_false,hb,h3,hav,han]
 refine h1.use ?_
 simp (disch:=first|assumption|omega|(simp only [List.length_append,List.length_cons,List.length_nil];omega)) only [go_sem,reduceCtorEq,Nat.reduceEqDiff,Nat.reduceAdd,Nat.reduceSub,Nat.reduceMul,Nat.reduceLeDiff,Int.reduceLT,Int.reduceLE,Int.reduceEq,↓reduceIte,Int.reduceNeg,Int.reduceAdd,Int.reduceSub,Int.reduceMul,true_imp_iff,forall_const,Nat.mul_one,Int.reduceToNat,Nat.reducePow,Int.reducePow,Bool.true_and,Bool.false_and,Bool.and_false]
 refine h2.use ?_
 unfold seen clampP
 by_cases hf:f=0
 ·rw [if_pos hf]
  simp (disch:=first|assumption|omega|(simp only [List.length_append,List.length_cons,List.length_nil];omega)) only [go_sem,reduceCtorEq,Nat.reduceEqDiff,Nat.reduceAdd,Nat.reduceSub,Nat.reduceMul,Nat.reduceLeDiff,Int.reduceLT,Int.reduceLE,Int.reduceEq,↓reduceIte,Int.reduceNeg,Int.reduceAdd,Int.reduceSub,Int.reduceMul,true_imp_iff,forall_const,Nat.mul_one,Int.reduceToNat,Nat.reducePow,Int.reducePow,Bool.true_and,Bool.false_and,Bool.and_false,hb,hf]
  exact retC_by (.refl _) (.refl _) ⟨rfl,rfl⟩
 ·rw [if_neg hf]
  simp (disch:=first|assumption|omega|(simp only [List.length_append,List.length_cons,List.length_nil];omega)) only [go_sem,reduceCtorEq,Nat.reduceEqDiff,Nat.reduceAdd,Nat.reduceSub,Nat.reduceMul,Nat.reduceLeDiff,Int.reduceLT,Int.reduceLE,Int.reduceEq,↓reduceIte,Int.reduceNeg,Int.reduceAdd,Int.reduceSub,Int.reduceMul,true_imp_iff,forall_const,Nat.mul_one,Int.reduceToNat,Nat.reducePow,Int.reducePow,Bool.true_and,Bool.false_and,Bool.and_false,hb,hf]
  exact retC_by (.refl _) (.refl _) ⟨rfl,(xset_self hb).symm⟩
end Go.A
namespace Go.A
open Go.Proofs Go.Shelf Go.RowKit
section
variable {P:Program} {ρ:Ren}
set_option maxHeartbeats 2000000 in
theorem bstr_used (L:Lays.n169 P ρ) (X:Builder.Extra P ρ) (b g cap size:Nat) (l:List UInt8) (w:World) (h0:l ≠ []) (hc1:w.cell? ⟨b,1,none⟩=some (.slice (some ⟨g,0,none⟩) l.length cap)) (hcap:cap≠0)
  (hsh:w.shape? g=some (ρ.t 5,size)) (hle:l.length<=size) (h63:l.length<=9223372036854775807) (hcell:∀ j x,l[j]? = some x->w.cell? ⟨g,j,none⟩=some (.int .u8 x.toNat)) :
  Calls P (ρ.f 169) #[.pointer (some ⟨b,0,none⟩)] w fun e w'=>e = .returned (.string ⟨l.toArray⟩)/\w'=w.drew.freeze ⟨g,0,none⟩ l.length:=by
 have c1:w.drew.cell? ⟨b,1,none⟩=some (.slice (some ⟨g,0,none⟩) l.length cap):=hc1
 have hSD:(Builtin.unsafeSliceData_ #[(ρ.t 37)] (ρ.t 127) #[.slice (some ⟨g,0,none⟩) l.length cap]).run P w.drew = .ok (.pointer (some ⟨g,0,none⟩)) w.drew:=
  Lib.run_unsafeSliceData_row _ _ _ _ _ _ hcap
 have hUS:(Builtin.unsafeString_ #[(ρ.t 127),(ρ.t 3)] (ρ.t 9) #[.pointer (some ⟨g,0,none⟩),.int .i64 l.length]).run P w.drew = .ok (.string ⟨l.toArray⟩) (w.drew.freeze ⟨g,0,none⟩ l.length):=by
  refine Lib.run_unsafeString_row w.drew (ρ.t 127) (ρ.t 3) (ρ.t 9) (ρ.t 5) L.t127 X.cellsByte g size hsh l h0 hle h63 ?_
  intro j x hx
  rw [addr_add',Nat.zero_add]
  exact hcell j x hx
 have mixed:=L.mixed
 have t72:=L.t72;have a72:=L.a72;have z72:=L.z72;have v72:=L.v72;have u72:=run_underlying L.t72
 have t70:=L.t70;have a70:=L.a70;have z70:=L.z70;have v70:=L.v70;have u70:=run_underlying L.t70
 have t37:=L.t37;have a37:=L.a37;have z37:=L.z37;have v37:=L.v37;have u37:=run_underlying L.t37
 have t127:=L.t127;have a127:=L.a127;have z127:=L.z127;have v127:=L.v127;have u127:=run_underlying L.t127
 have t3:=L.t3;have a3:=L.a3;have z3:=L.z3;have v3:=L.v3;have u3:=run_underlying L.t3
 have t9:=L.t9;have a9:=L.a9;have z9:=L.z9;have v9:=L.v9;have u9:=run_underlying L.t9
 have t5:=X.t5;have a5:=X.a5;have z5:=X.z5;have v5:=X.v5;have u5:=run_underlying X.t5
 go_enter L.f169,Body.n169_ntmps ρ
 go_wp2
 go_region_o
 all_goals (go_wp2;go_ret;exact ⟨rfl,rfl⟩)
set_option maxHeartbeats 2000000 in
theorem bstr_nil (L:Lays.n169 P ρ) (X:Builder.Extra P ρ) (b:Nat) (w:World) (hc1:w.cell? ⟨b,1,none⟩=some (.slice none 0 0)) :
  Calls P (ρ.f 169) #[.pointer (some ⟨b,0,none⟩)] w fun e w'=>e = .returned (.string ⟨#[]⟩)/\w'=w.drew:=by
 have hUS:=Any.unsafeString_none L X
 have c1:w.drew.cell? ⟨b,1,none⟩=some (.slice none 0 0):=hc1
 have hSD:(Builtin.unsafeSliceData_ #[(ρ.t 37)] (ρ.t 127) #[.slice none 0 0]).run P w.drew = .ok (.pointer none) w.drew:=rfl
 have mixed:=L.mixed
 have t72:=L.t72;have a72:=L.a72;have z72:=L.z72;have v72:=L.v72;have u72:=run_underlying L.t72
 have t70:=L.t70;have a70:=L.a70;have z70:=L.z70;have v70:=L.v70;have u70:=run_underlying L.t70
 have t37:=L.t37;have a37:=L.a37;have z37:=L.z37;have v37:=L.v37;have u37:=run_underlying L.t37
 have t127:=L.t127;have a127:=L.a127;have z127:=L.z127;have v127:=L.v127;have u127:=run_underlying L.t127
 have t3:=L.t3;have a3:=L.a3;have z3:=L.z3;have v3:=L.v3;have u3:=run_underlying L.t3
 have t9:=L.t9;have a9:=L.a9;have z9:=L.z9;have v9:=L.v9;have u9:=run_underlying L.t9
 have t5:=X.t5;have a5:=X.a5;have z5:=X.z5;have v5:=X.v5;have u5:=run_underlying X.t5
 go_enter L.f169,Body.n169_ntmps ρ
 go_wp2
 go_region_o
 all_goals (go_wp2;go_ret;exact ⟨rfl,rfl⟩)
end
theorem size_bld:(Tryz.prog.info? 97).map (·.size)=some 2:=by kernel_rfl
theorem lies_bld:liesAt Tryz.prog Tryz.prog.depth 97 (2 / Tryz.prog.cellsOf 97) 0 97 1=true:=by kernel_rfl
set_option maxHeartbeats 1000000 in
set_option maxRecDepth 1000000 in
theorem cc_used (b:Nat) (w:World) (h0:w.cell? ⟨b,0,none⟩=some (.pointer (some ⟨b,0,none⟩))) :
  Calls Tryz.prog 78 #[.pointer (some ⟨b,0,none⟩)] w fun e w'=>e = .returned (.tuple #[])/\w'=w:=by
 obtain ⟨j,hj,_⟩:=Option.map_eq_some_iff.1 size_bld
 go_enter Tryz.func78,Tryz.ntmps78
 go_wp2
 rw [Lib.run_neq_ptr_same w _ Tryz.underlying95 hj]
 go_wp2
 go_end0
 exact ⟨rfl,rfl⟩
set_option maxHeartbeats 1000000 in
set_option maxRecDepth 1000000 in
theorem cc_fresh (b:Nat) (w:World) (h0:w.cell? ⟨b,0,none⟩=some (.pointer none)) (hsh:w.shape? b=some (97,2)) (hfz:w.frozen? ⟨b,0,none⟩=false) :
  Calls Tryz.prog 78 #[.pointer (some ⟨b,0,none⟩)] w fun e w'=>e = .returned (.tuple #[])/\w'=w.setCell ⟨b,0,none⟩ (.pointer (some ⟨b,0,none⟩)):=by
 obtain ⟨j,hj,hjs⟩:=Option.map_eq_some_iff.1 size_bld
 go_enter Tryz.func78,Tryz.ntmps78
 go_wp2
 rw [Lib.run_to_unsafe w ⟨b,0,none⟩ Tryz.underlying95 Tryz.underlying141 hj (by rw [hjs];decide) hsh (Nat.zero_lt_succ 1)]
 simp only [Result.andThen]
 rw [Oper.upon_value]
 go_wp2
 rw [run_callFunc_extern Tryz.func100 (by kernel_rfl) (by kernel_rfl) (by kernel_rfl) (e:=Extern.AbiNoEscape.same) (by kernel_rfl)]
 rw [Lib.run_noEscape]
 simp only [Result.andThen]
 rw [Oper.upon_value]
 go_wp2
 rw [Lib.run_from_unsafe w ⟨b,0,none⟩ Tryz.underlying141 Tryz.underlying95 hj hsh lies_bld]
 simp only [Result.andThen]
 rw [Oper.upon_value]
 go_wp2
 go_end0
 exact ⟨rfl,rfl⟩
end Go.A
namespace Go.A
open Go.Proofs
theorem copyCheck_typ {σ:ASt} {b:Nat} (h:σ b=some (.typ 97 [.pointer none,.slice none 0 0])) :
  ACalls Tryz.prog 78 [.ptr b 0] σ fun v σ'=>v = .tuple []/\σ'=σ.set b (some (.obj [.ptr b 0,.sl .full []])):=by
 intro w vs hs ha
 cases ha with
 | cons h1 h2=>
 cases h1;cases h2
 have hb:w.heap[b]? = some (.cells ⟨[.pointer none,.slice none 0 0]⟩ 97 (0,0)):=hs b _ h
 refine (cc_fresh b w (by simp [World.cell?,hb]) (by simp [World.shape?,hb]) (by simp [World.frozen?,hb])).mono ?_
 rintro e w' ⟨rfl,rfl⟩
 have hw:=Wrote.setCell (o:=0) hb (.pointer (some ⟨b,0,none⟩))
 have hle:Le σ w (σ.set b (some (.obj [.ptr b 0,.sl .full []]))) (w.setCell ⟨b,0,none⟩ (.pointer (some ⟨b,0,none⟩))):=by
  refine ⟨hw.os,hw.tape,hw.output,by rw [hw.size];exact Nat.le_refl _,fun x hx hn=>?_,fun x cs hx hn=>?_,fun x f hx hn=>?_⟩
  all_goals have hne:x≠b:=by rintro rfl;rw [h] at hn;cases hn
  ·rw [ASt.set_ne hne];exact ⟨hn,hw.other x hne⟩
  ·rw [ASt.set_ne hne];exact ⟨.inr hn,hw.other x hne⟩
  ·rw [ASt.set_ne hne];exact ⟨.inr ⟨f,Nat.le_refl _,hn⟩,shape_of_heap_eq (hw.other x hne),fun o _=>cell_of_heap_eq (hw.other x hne) o⟩
 have hro:RoleOk (σ.set b (some (.obj [.ptr b 0,.sl .full []]))) (w.setCell ⟨b,0,none⟩ (.pointer (some ⟨b,0,none⟩))) b (.obj [.ptr b 0,.sl .full []]):=by
  refine ⟨_,_,_,hw.new,?_,fun o ho=>?_⟩
  ·exact .cons (.ptr _ _) (.cons .slN .nil)
  ·rw [hw.frozen]
   simp only [World.frozen?,hb]
   simp
 exact ⟨_,_,_,rfl,⟨rfl,rfl⟩,hle,hw.sim hs hle hro,.tuple .nil⟩
theorem copyCheck_used {σ:ASt} {b:Nat} {x:AV} (h:σ b=some (.obj [.ptr b 0,x])):ACalls Tryz.prog 78 [.ptr b 0] σ fun v σ'=>v = .tuple []/\σ'=σ:=by
 intro w vs hs ha
 cases ha with
 | cons h1 h2=>
 cases h1;cases h2
 obtain ⟨us,h3,h4,_⟩:=hs.objCell h
 cases h3 with
 | cons h5 h6=>
 cases h5
 refine (cc_used b w (h4 0 _ rfl)).mono ?_
 rintro e w' ⟨rfl,rfl⟩
 exact ⟨_,_,_,rfl,⟨rfl,rfl⟩,Le.refl _ _,hs,.tuple .nil⟩
theorem bstring_typ {σ:ASt} {b:Nat} (h:σ b=some (.typ 97 [.pointer none,.slice none 0 0])):ACalls Tryz.prog 56 [.ptr b 0] σ fun v σ'=>v = .str []/\σ'=σ:=by
 intro w vs hs ha
 cases ha with
 | cons h1 h2=>
 cases h1;cases h2
 have hb:w.heap[b]? = some (.cells ⟨[.pointer none,.slice none 0 0]⟩ 97 (0,0)):=hs b _ h
 refine (bstr_nil Tryz.lays169 Tryz.Builder_Extra_169 b w (by simp [World.cell?,hb])).mono ?_
 rintro e w' ⟨rfl,rfl⟩
 have hx:Ext w w.drew:=Ext.drew (Ext.refl w)
 exact ⟨_,_,_,rfl,⟨rfl,rfl⟩,ext_le hx,hs.ext hx,.str []⟩
theorem row_bytes {σ:ASt} {w:World} {b:Nat}:∀ {l:List UInt8} {o:Nat},Row σ w b o 1 (bytesAV l)->∀ j x,l[j]? = some x->w.cell? ⟨b,o+j,none⟩=some (.int .u8 x.toNat)
 | [],o,h,j,x,hj=>by simp at hj
 | c::l,o,h,j,x,hj=>by
   cases h with
   | cons h1 h2 h3=>
   cases j with
   | zero=>
     simp only [List.getElem?_cons_zero,Option.some.injEq] at hj
     subst hj
     cases h2 with
     | cons g1 g2 g3 g4=>
     cases g3
     exact g2
   | succ j=>
     have:=row_bytes (l:=l) h3 j x (by simpa using hj)
     rw [show o+(j+1)=o+1+j by omega]
     exact this
theorem bstring_used {σ:ASt} {b g:Nat} {p:AV} {l:List UInt8} (h0:l ≠ []) (hl:l.length<=9223372036854775807) (h:σ b=some (.obj [p,.sl (.tok g 1 5) (bytesAV l)])) (hg:σ g=some (.tok l.length)) :
  ACalls Tryz.prog 56 [.ptr b 0] σ fun v σ'=>v = .str l/\σ'=σ:=by
 intro w vs hs ha
 cases ha with
 | cons h1 h2=>
 cases h1;cases h2
 obtain ⟨us,h3,h4,h9⟩:=hs.objCell h
 cases h3 with
 | cons h5 h6=>
 cases h6 with
 | cons h7 h8=>
 cases h8
 obtain ⟨c,T,fr,k1,k2,k3⟩:=hs g _ hg
 have hlen:(bytesAV l).length=l.length:=by simp [bytesAV]
 generalize hbl:bytesAV l=bl at h7
 cases h7 with
 | sl r1 r2 r3 r4 r5=>
 subst hbl
 obtain ⟨rfl,rfl,rfl,r6,r7⟩:=r4
 have hpos:0<l.length:=List.length_pos_iff.2 h0
 subst r2
 rw [hlen] at r3
 have hc1:=h4 1 _ rfl
 rw [hlen] at hc1
 refine (bstr_used Tryz.lays169 Tryz.Builder_Extra_169 b g _ _ l w h0 hc1 (by omega) r6 (by omega) hl ?_).mono ?_
 ·intro j x hj
  have:=row_bytes r1 j x hj
  simpa using this
 rintro e w' ⟨rfl,rfl⟩
 have hother:∀ x,x≠g->(w.drew.freeze ⟨g,0,none⟩ l.length).heap[x]? = w.heap[x]? := by
  intro x hx
  simp only [World.freeze]
  rw [if_neg (by omega)]
  simp only [Array.getElem?_modify]
  rw [if_neg (Ne.symm hx)]
  rfl
 obtain ⟨lo,hi⟩:=fr
 have hk1:w.drew.heap[g]? = some (.cells c T (lo,hi)):=k1
 obtain ⟨fr',hfr,hnew⟩:∃ fr':Nat×Nat,fr'.2<=l.length/\(w.drew.freeze ⟨g,0,none⟩ l.length).heap[g]? = some (.cells c T fr'):=by
  refine ⟨if lo==hi then (0,0+l.length) else (min lo 0,max hi (0+l.length)),?_,?_⟩
  ·dsimp only at k3
   split<;>dsimp only<;>omega
  ·simp only [World.freeze]
   rw [if_neg (by omega)]
   simp only [Array.getElem?_modify,if_true,hk1,Option.map_some]
 have hshape:(w.drew.freeze ⟨g,0,none⟩ l.length).shape? g=w.shape? g:=by simp only [World.shape?,hnew,k1]
 have hcells:∀ o,(w.drew.freeze ⟨g,0,none⟩ l.length).cell? ⟨g,o,none⟩=w.cell? ⟨g,o,none⟩:=fun o=>by simp only [World.cell?,hnew,k1]
 have hle:Le σ w σ (w.drew.freeze ⟨g,0,none⟩ l.length):=by
  refine ⟨?_,?_,?_,?_,fun x hx hn=>?_,fun x cs hx hn=>?_,fun x f hx hn=>?_⟩
  ·simp only [World.freeze];split<;>rfl
  ·simp only [World.freeze];split<;>rfl
  ·simp only [World.freeze];split<;>rfl
  ·simp only [World.freeze];split
   ·exact Nat.le_refl _
   ·rw [Array.size_modify];exact Nat.le_refl _
  ·have hne:x≠g:=by rintro rfl;rw [hg] at hn;cases hn
   exact ⟨hn,hother x hne⟩
  ·have hne:x≠g:=by rintro rfl;rw [hg] at hn;cases hn
   exact ⟨.inr hn,hother x hne⟩
  ·by_cases hne:x=g
   ·subst hne
    exact ⟨.inr ⟨f,Nat.le_refl _,hn⟩,hshape,fun o _=>hcells o⟩
   ·exact ⟨.inr ⟨f,Nat.le_refl _,hn⟩,shape_of_heap_eq (hother x hne),fun o _=>cell_of_heap_eq (hother x hne) o⟩
 have hsim:Sim σ (w.drew.freeze ⟨g,0,none⟩ l.length):=by
  intro x q hx
  by_cases hne:x=g
  ·subst hne
   rw [hg] at hx
   injection hx with hx
   subst hx
   exact ⟨c,T,fr',hnew,k2,hfr⟩
  ·exact (hs x q hx).keep hle (hother x hne)
 exact ⟨_,_,_,rfl,⟨rfl,rfl⟩,hle,hsim,.str l⟩
end Go.A
namespace Go.A
inductive Over (τ:ASt):ASt->Prop
 | refl:Over τ τ
 | set {σ:ASt} (c:Nat) (r:Role):Over τ σ->σ c=none->Over τ (σ.set c (some r))
theorem Over.drop {τ σ:ASt} (h:Over τ σ):Drop σ τ:=by
 induction h with
 | refl=>exact Drop.refl _
 | set c q h hc ih=>
   intro x
   by_cases hx:x=c
   ·subst hx
    rcases ih x with h1|h1
    ·exact .inr (h1.trans hc)
    ·exact .inr h1
   ·rcases ih x with h1|h1
    ·exact .inl (by rw [ASt.set_ne hx];exact h1)
    ·exact .inr h1
def BW (T U:TypeId) (σ0:ASt) (b:Nat) (l:List UInt8) (σ:ASt):Prop:=
 (l = []/\σ=σ0.set b (some (.typ T [.pointer none,.slice none 0 0])))\/(l ≠ []/\∃ k,GrownT U (σ0.set b (some (.obj [.ptr b 0,.sl k (bytesAV l)]))) σ k l.length 1)
theorem BW.over {T U:TypeId} {σ0 σ:ASt} {b:Nat} {l:List UInt8} (h:BW T U σ0 b l σ) (hb:σ0 b=none):Over σ0 σ:=by
 rcases h with ⟨_,rfl⟩|⟨_,k,h1|⟨g,_,hg,rfl⟩⟩
 ·exact .set b _ .refl hb
 ·obtain ⟨_,_,rfl⟩:=h1
  exact .set b _ .refl hb
 ·exact .set g _ (.set b _ .refl hb) hg
theorem BW.iter {T U:TypeId} {σ0 σ:ASt} {b it:Nat} {l:List UInt8} {r r':Role} (h:BW T U (σ0.set it (some r)) b l σ) (hb:it≠b):BW T U (σ0.set it (some r')) b l (σ.set it (some r'))/\σ it=some r:=by
 rcases h with ⟨h0,rfl⟩|⟨h0,k,h1|⟨g,h1,hg,rfl⟩⟩
 ·refine ⟨.inl ⟨h0,?_⟩,by rw [ASt.set_ne hb,ASt.set_same]⟩
  rw [<-set_swap hb,ASt.set_set]
 ·obtain ⟨h1,h2,rfl⟩:=h1
  refine ⟨.inr ⟨h0,k,.inl ⟨h1,h2,?_⟩⟩,by rw [ASt.set_ne hb,ASt.set_same]⟩
  rw [<-set_swap hb,ASt.set_set]
 ·obtain ⟨h3,h4,h5⟩:=set_none hg
  obtain ⟨h6,h7,h8⟩:=set_none h5
  refine ⟨.inr ⟨h0,k,.inr ⟨g,h1,?_,?_⟩⟩,by rw [ASt.set_ne h7,ASt.set_ne hb,ASt.set_same]⟩
  ·rw [ASt.set_ne h3,ASt.set_ne h6];exact h8
  ·rw [<-set_swap h7,← set_swap hb,ASt.set_set]
end Go.A
namespace Go.A
open Go.Proofs Go.Lib
abbrev BD:=BW 97 5
abbrev GT:=GrownT 5
theorem cc_ok {σ0 σ:ASt} {b:Nat} {l:List UInt8} (h:BD σ0 b l σ):ACalls Tryz.prog 78 [.ptr b 0] σ fun v σ'=>v = .tuple []/\∃ k,GT (σ0.set b (some (.obj [.ptr b 0,.sl k (bytesAV l)]))) σ' k l.length 1:=by
 rcases h with ⟨rfl,rfl⟩|⟨h0,k,hg⟩
 ·refine (copyCheck_typ (ASt.set_same _ _ _)).mono ?_
  rintro v σ' ⟨rfl,rfl⟩
  exact ⟨rfl,.full,.inl ⟨rfl,rfl,by rw [ASt.set_set];rfl⟩⟩
 ·refine (copyCheck_used (hg.at (ASt.set_same _ _ _))).mono ?_
  rintro v σ' ⟨rfl,rfl⟩
  exact ⟨rfl,k,hg⟩
theorem bytesAV_app (l m:List UInt8):bytesAV l++bytesAV m=bytesAV (l++m):=by simp [bytesAV]
theorem bytesAV_len (l:List UInt8):(bytesAV l).length=l.length:=by simp [bytesAV]
theorem bstring_ok {σ0 σ:ASt} {b:Nat} {l:List UInt8} (h:BD σ0 b l σ) (hl:l.length<=1000000000):ACalls Tryz.prog 56 [.ptr b 0] σ fun v σ'=>v = .str l/\σ'=σ:=by
 rcases h with ⟨rfl,rfl⟩|⟨h0,k,hg⟩
 ·exact bstring_typ (ASt.set_same _ _ _)
 ·have hb:=hg.at (ASt.set_same _ _ _)
  rcases hg with ⟨_,h1,_⟩|⟨g,rfl,hg,rfl⟩
  ·exact absurd (List.eq_nil_of_length_eq_zero h1) h0
  ·refine bstring_used h0 (by omega) hb (by rw [ASt.set_same,Nat.mul_one])
end Go.A
namespace Go.A
open Go.Proofs
/-! 54: (*strings.Builder).WriteString -/
def c54_7:ACode := .seq (.ops [ oq 4 (.mv (.v (.int .i64 0))),oq 5 (.mv (.v .nili))]) (.seq (.ops [ oq 6 (.mv (.t 0)),oe 7 (.call 78 [(.t 6)])]) (.seq (.ops [ oq 8 (.mv (.t 0)),oq 9 (.mv (.t 0)),oq 10 (.nc (.t 9)),oq 11 (.fa 1 (.t 10)),oq 12 (.ld none (.t 11)),oq 13 (.mv (.t 1)),oe 14 (.apps 5 (.t 12) (.t 13)),oq 15 (.nc (.t 8)),oq 16 (.fa 1 (.t 15)),oz (.store 1 (.t 16) (.t 14))]) (.seq (.ops [ oq 17 (.mv (.t 1)),oq 18 (.lenS (.t 17)),oq 4 (.mv (.t 18)),oq 5 (.mv (.v .nili))]) .ret)))
@[go_sem] def c54_7_wp:=wp_of c54_7.eq_1
def c54:AFn:=⟨19,[.t 4,.t 5],c54_7⟩
theorem c54_ok:compF Tryz.prog Tryz.f54=some c54:=by kernel_rfl
theorem a54 {args:List AV} {σ:ASt} {R:AV->ASt->Prop} (hl:args.length<=19) (h:c54_7.wp Tryz.prog (RetQ [.t 4,.t 5] R) (init args) σ):ACalls Tryz.prog 54 args σ R:=acalls_of Tryz.func54 c54_ok hl h
end Go.A
namespace Go.A
open Go.Proofs Go.Lib
theorem appsB_by {σ σ0:ASt} {k:SK} {l m:List UInt8} {K:AV->ASt->Prop} (h:GT σ0 σ k l.length 1) (hl:l.length+m.length<=4611686018427)
  (hK:∀ k' σ',GT σ0 σ' k' (l++m).length 1->K (.sl k' (bytesAV (l++m))) σ'):appsC 5 (.sl k (bytesAV l)) (.str m) σ K:=by
 refine appsCT_by (by rw [bytesAV_len];exact h) (by rw [bytesAV_len];omega) fun k' σ' hg=>?_
 rw [bytesAV_app]
 rw [bytesAV_len] at hg
 exact hK k' σ' (by rw [List.length_append];exact hg)
theorem writes_ok {σ0 σ:ASt} {b:Nat} {l:List UInt8} (h:BD σ0 b l σ) (m:List UInt8) (hl:l.length+m.length<=1000000000) :
  ACalls Tryz.prog 54 [.ptr b 0,.str m] σ fun v σ'=>v = .tuple [.int .i64 m.length,.nili]/\((l++m = []/\∃ k,GT (σ0.set b (some (.obj [.ptr b 0,.sl k []]))) σ' k 0 1)\/BD σ0 b (l++m) σ'):=by
 refine a54 (by simp) ?_
 simp (disch:=first|assumption|omega|(simp only [List.length_append,List.length_cons,List.length_nil];omega)) only [go_sem,reduceCtorEq,Nat.reduceEqDiff,Nat.reduceAdd,Nat.reduceSub,Nat.reduceMul,Nat.reduceLeDiff,Int.reduceLT,Int.reduceLE,Int.reduceEq,↓reduceIte,Int.reduceNeg,Int.reduceAdd,Int.reduceSub,Int.reduceMul,true_imp_iff,forall_const,Nat.mul_one,Int.reduceToNat,Nat.reducePow,Int.reducePow,Bool.true_and,Bool.false_and,Bool.and_false]
 refine (cc_ok h).mono ?_
 rintro v σ1 ⟨rfl,k,hg⟩
 have hb:=hg.at (ASt.set_same _ _ _)
 simp (disch:=first|assumption|omega|(simp only [List.length_append,List.length_cons,List.length_nil];omega)) only [go_sem,reduceCtorEq,Nat.reduceEqDiff,Nat.reduceAdd,Nat.reduceSub,Nat.reduceMul,Nat.reduceLeDiff,Int.reduceLT,Int.reduceLE,Int.reduceEq,↓reduceIte,Int.reduceNeg,Int.reduceAdd,Int.reduceSub,Int.reduceMul,true_imp_iff,forall_const,Nat.mul_one,Int.reduceToNat,Nat.reducePow,Int.reducePow,Bool.true_and,Bool.false_and,Bool.and_false,hb]
 refine appsB_by hg (by omega) fun k' σ' hg'=>?_
 have hb':=hg'.at (ASt.set_same _ _ _)
 simp (disch:=first|assumption|omega|(simp only [List.length_append,List.length_cons,List.length_nil];omega)) only [go_sem,reduceCtorEq,Nat.reduceEqDiff,Nat.reduceAdd,Nat.reduceSub,Nat.reduceMul,Nat.reduceLeDiff,Int.reduceLT,Int.reduceLE,Int.reduceEq,↓reduceIte,Int.reduceNeg,Int.reduceAdd,Int.reduceSub,Int.reduceMul,true_imp_iff,forall_const,Nat.mul_one,Int.reduceToNat,Nat.reducePow,Int.reducePow,Bool.true_and,Bool.false_and,Bool.and_false,hb']
 refine retC_by (Drop.refl _) (.refl _) ⟨rfl,?_⟩
 by_cases he:l++m = []
 ·refine .inl ⟨he,k',?_⟩
  have:=hg'.obj (r' := .obj [.ptr b 0,.sl k' (bytesAV (l++m))])
  rw [he] at this
  rw [he]
  exact this
 ·exact .inr (.inr ⟨he,k',hg'.obj⟩)
theorem writes1_ok {σ0 σ:ASt} {b:Nat} {l:List UInt8} (h:BD σ0 b l σ) (m:List UInt8) (hm:m ≠ []) (hl:l.length+m.length<=1000000000) :
  ACalls Tryz.prog 54 [.ptr b 0,.str m] σ fun v σ'=>v = .tuple [.int .i64 m.length,.nili]/\BD σ0 b (l++m) σ':=
 (writes_ok h m hl).mono fun _ _ ⟨h1,h2⟩=>⟨h1,h2.resolve_left fun h=>hm (List.append_eq_nil_iff.1 h.1).2⟩
end Go.A
namespace Go.A
open Go.Proofs
/-! 58: tabular/texts.proper -/
def c58_19:ACode := .seq (.ops [ oe 10 (.nxt (.t 9)),oq 11 (.ext 0 (.t 10))]) (.seq (.cond (.t 11) .skip (.exit 0)) (.block 1 (.seq (.ops [ oq 12 (.ext 2 (.t 10)),oq 6 (.mv (.t 12))]) (.seq (.ops [ oq 13 (.mv (.t 6)),oq 14 (.i2s (.t 13)),oq 7 (.mv (.t 14))]) (.seq (.seq (.ops [ oq 15 (.mv (.t 4))]) (.cond (.t 15) (.ops [ oq 16 (.mv (.t 7)),oe 17 (.call 57 [(.t 16)]),oe 18 (.call 54 [(.t 3),(.t 17)])]) (.ops [ oq 19 (.mv (.t 7)),oe 20 (.call 32 [(.t 19)]),oe 21 (.call 54 [(.t 3),(.t 20)])]))) (.ops [ oq 22 (.mv (.t 6)),oe 23 (.call 79 [(.t 22)]),oq 4 (.mv (.t 23))]))))))
def c58_24:ACode := .seq (.ops [ oe 24 (.call 56 [(.t 3)]),oq 2 (.mv (.t 24))]) .ret
def c58_28:ACode := .seq (.ops [ oq 2 (.mv (.v (.str [])))]) (.seq (.ops [ oe 3 (.allocT 97)]) (.seq (.ops [ oq 4 (.mv (.v (.bool false)))]) (.seq (.seq (.ops [ oq 8 (.mv (.t 0)),oe 9 (.rng (.t 8))]) (.block 0 (.loop c58_19))) c58_24)))
@[go_sem] def c58_19_wp:=wp_of c58_19.eq_1
@[go_sem] def c58_24_wp:=wp_of c58_24.eq_1
@[go_sem] def c58_28_wp:=wp_of c58_28.eq_1
def c58:AFn:=⟨25,[.t 2],c58_28⟩
theorem c58_ok:compF Tryz.prog Tryz.f58=some c58:=by kernel_rfl
theorem a58 {args:List AV} {σ:ASt} {R:AV->ASt->Prop} (hl:args.length<=25) (h:c58_28.wp Tryz.prog (RetQ [.t 2] R) (init args) σ):ACalls Tryz.prog 58 args σ R:=acalls_of Tryz.func58 c58_ok hl h
end Go.A
namespace Go.A
open Go.Proofs Go.Lib
def encU (r:Int):List UInt8:=(Utf8.encode r).data.toList
theorem encU_len (r:Int):1<=(encU r).length/\(encU r).length<=4:=by
 have h:=encode_size_le r
 have e:(encU r).length=(Utf8.encode r).size:=rfl
 refine ⟨?_,by omega⟩
 rw [e]
 unfold Utf8.encode
 simp only
 repeat' split
 all_goals simp [ByteArray.size]
def propF:Nat->Bool->List UInt8->List UInt8
 | 0,_,_ => []
 | k+1,ins,r=>if r = [] then [] else (if ins=true then smallP (encU (decodeL r).1) else greatP (encU (decodeL r).1))++propF k (letterB (decodeL r).1) (r.drop (decodeL r).2)
def propP (s:List UInt8):List UInt8:=propF s.length false s
theorem propF_fuel:∀ (k m:Nat) (ins:Bool) (r:List UInt8),r.length<=k->r.length<=m->propF k ins r=propF m ins r
 | 0,m,ins,r,h,_=>by
   have:r = []:=List.eq_nil_of_length_eq_zero (by omega)
   subst this
   cases m<;>simp [propF]
 | k+1,0,ins,r,_,h=>by
   have:r = []:=List.eq_nil_of_length_eq_zero (by omega)
   subst this
   simp [propF]
 | k+1,m+1,ins,r,h,h'=>by
   unfold propF
   by_cases hr:r = []
   ·rw [if_pos hr,if_pos hr]
   have hpos:=List.length_pos_iff.2 hr
   have hw:=decodeL_width r
   rw [if_neg hr,if_neg hr,propF_fuel k m _ _ (by rw [List.length_drop];omega) (by rw [List.length_drop];omega)]
def propQ (ins:Bool) (r:List UInt8):List UInt8:=propF r.length ins r
theorem propQ_nil (ins:Bool):propQ ins [] = []:=rfl
theorem propQ_step (ins:Bool) {r:List UInt8} (hr:r ≠ []):propQ ins r=(if ins=true then smallP (encU (decodeL r).1) else greatP (encU (decodeL r).1))++propQ (letterB (decodeL r).1) (r.drop (decodeL r).2):=by
 have hpos:=List.length_pos_iff.2 hr
 have hw:=decodeL_width r
 obtain ⟨k,hk⟩:∃ k,r.length=k+1:=⟨r.length-1,by omega⟩
 conv=>lhs;unfold propQ;rw [hk,propF]
 rw [if_neg hr]
 unfold propQ
 rw [propF_fuel k _ _ _ (by rw [List.length_drop];omega) (Nat.le_refl _)]
theorem greatP_len (l:List UInt8):(greatP l).length=l.length:=by simp [greatP]
theorem xproper_ok (s:List UInt8) (hs:s.length<=200000):Pure Tryz.prog 58 [.str s] (.str (propP s)):=by
 intro σ
 obtain ⟨R,hR⟩:∃ R,propP s=R:=⟨_,rfl⟩
 rw [hR]
 have hlow:=fun c=>xlower_ok (encU c) (by have:=encU_len c;omega)
 have hgre:=fun c=>vgreat_ok (encU c) (by have:=encU_len c;omega)
 have hlet:=xletter_ok
 refine a58 (by simp) ?_
 obtain ⟨F,hF⟩:∃ F,F=ACode.wp Tryz.prog c58_24:=⟨_,rfl⟩
 simp (disch:=first|assumption|omega|(simp only [List.length_append,List.length_cons,List.length_nil];omega)) only [go_sem,reduceCtorEq,Nat.reduceEqDiff,Nat.reduceAdd,Nat.reduceSub,Nat.reduceMul,Nat.reduceLeDiff,Int.reduceLT,Int.reduceLE,Int.reduceEq,↓reduceIte,Int.reduceNeg,Int.reduceAdd,Int.reduceSub,Int.reduceMul,true_imp_iff,forall_const,Nat.mul_one,Int.reduceToNat,Nat.reducePow,Int.reducePow,Bool.true_and,Bool.false_and,Bool.and_false,←hF]
 refine allocTC_by fun b hb=>?_
 simp (disch:=first|assumption|omega|(simp only [List.length_append,List.length_cons,List.length_nil];omega)) only [go_sem,reduceCtorEq,Nat.reduceEqDiff,Nat.reduceAdd,Nat.reduceSub,Nat.reduceMul,Nat.reduceLeDiff,Int.reduceLT,Int.reduceLE,Int.reduceEq,↓reduceIte,Int.reduceNeg,Int.reduceAdd,Int.reduceSub,Int.reduceMul,true_imp_iff,forall_const,Nat.mul_one,Int.reduceToNat,Nat.reducePow,Int.reducePow,Bool.true_and,Bool.false_and,Bool.and_false,←hF]
 refine rngC_by fun it hit=>?_
 have hbi:it≠b:=by rintro rfl;rw [ASt.set_same] at hit;cases hit
 have hit0:σ it=none:=by rwa [ASt.set_ne hbi] at hit
 rw [set_swap (Ne.symm hbi)]
 simp (disch:=first|assumption|omega|(simp only [List.length_append,List.length_cons,List.length_nil];omega)) only [go_sem,reduceCtorEq,Nat.reduceEqDiff,Nat.reduceAdd,Nat.reduceSub,Nat.reduceMul,Nat.reduceLeDiff,Int.reduceLT,Int.reduceLE,Int.reduceEq,↓reduceIte,Int.reduceNeg,Int.reduceAdd,Int.reduceSub,Int.reduceMul,true_imp_iff,forall_const,Nat.mul_one,Int.reduceToNat,Nat.reducePow,Int.reducePow,Bool.true_and,Bool.false_and,Bool.and_false,←hF]
 refine wp_loop_by (fun (q:Nat×Bool×List UInt8) a σ'=>q.1<=s.length/\q.2.2.length<=4*q.1/\q.2.2++propQ q.2.1 (s.drop q.1)=R/\(a 3 = .ptr b 0/\a 4 = .bool q.2.1/\a 9 = .ptr it 0)/\BD (σ.set it (some (.iter s q.1))) b q.2.2 σ') (fun q=>s.length-q.1) (0,false,[]) (Dr.now ⟨Nat.zero_le _,Nat.zero_le _,?_,?_,.inl ⟨rfl,rfl⟩⟩) ?_
 ·rw [<-hR,List.drop_zero];rfl
 ·simp [AFr.upd]
 rintro ⟨p,ins,out⟩ a σ1 ⟨hp,hol,hout,hf,hw⟩
 dsimp only at hp hol hout hf hw ⊢
 have hbi0:(σ.set it (some (.iter s p))) b=none:=by
  rw [ASt.set_ne (Ne.symm hbi)];exact hb
 by_cases hlt:p<s.length
 ·obtain ⟨h1,h2,h3,h4⟩:=range_at hlt
  obtain ⟨hw',hσit⟩:=hw.iter (r' := .iter s (p+(decodeL (s.drop p)).2)) hbi
  rw [propQ_step ins h1,List.drop_drop] at hout
  generalize decodeL (s.drop p)=D at *
  obtain ⟨r,w⟩:=D
  dsimp only at h3 h4 hout hw'
  have hel:=encU_len r
  have hlow:=hlow r
  have hgre:=hgre r
  have hlet:=hlet r
  have hen:(Utf8.encode (r:Int)).data.toList=encU r:=rfl
  generalize encU (r:Int)=E at *
  simp (disch:=first|assumption|omega|(simp only [List.length_append,List.length_cons,List.length_nil];omega)) only [go_sem,reduceCtorEq,Nat.reduceEqDiff,Nat.reduceAdd,Nat.reduceSub,Nat.reduceMul,Nat.reduceLeDiff,Int.reduceLT,Int.reduceLE,Int.reduceEq,↓reduceIte,Int.reduceNeg,Int.reduceAdd,Int.reduceSub,Int.reduceMul,true_imp_iff,forall_const,Nat.mul_one,Int.reduceToNat,Nat.reducePow,Int.reducePow,Bool.true_and,Bool.false_and,Bool.and_false,hf,hσit,←hF]
  refine nxt_more hlt ?_
  rw [h2]
  cases ins with
  | true=>
    rw [if_pos rfl] at hout
    simp (disch:=first|assumption|omega|(simp only [List.length_append,List.length_cons,List.length_nil];omega)) only [go_sem,reduceCtorEq,Nat.reduceEqDiff,Nat.reduceAdd,Nat.reduceSub,Nat.reduceMul,Nat.reduceLeDiff,Int.reduceLT,Int.reduceLE,Int.reduceEq,↓reduceIte,Int.reduceNeg,Int.reduceAdd,Int.reduceSub,Int.reduceMul,true_imp_iff,forall_const,Nat.mul_one,Int.reduceToNat,Nat.reducePow,Int.reducePow,Bool.true_and,Bool.false_and,Bool.and_false,hf,hen,←hF]
    refine hlow.use ?_
    simp (disch:=first|assumption|omega|(simp only [List.length_append,List.length_cons,List.length_nil];omega)) only [go_sem,reduceCtorEq,Nat.reduceEqDiff,Nat.reduceAdd,Nat.reduceSub,Nat.reduceMul,Nat.reduceLeDiff,Int.reduceLT,Int.reduceLE,Int.reduceEq,↓reduceIte,Int.reduceNeg,Int.reduceAdd,Int.reduceSub,Int.reduceMul,true_imp_iff,forall_const,Nat.mul_one,Int.reduceToNat,Nat.reducePow,Int.reducePow,Bool.true_and,Bool.false_and,Bool.and_false,hf,←hF]
    refine (writes1_ok hw' (smallP E) (fun e=>by have:=congrArg List.length e;rw [smallP_len,List.length_nil] at this;omega) (by rw [smallP_len];omega)).mono ?_
    rintro v σ2 ⟨rfl,hw2⟩
    simp (disch:=first|assumption|omega|(simp only [List.length_append,List.length_cons,List.length_nil];omega)) only [go_sem,reduceCtorEq,Nat.reduceEqDiff,Nat.reduceAdd,Nat.reduceSub,Nat.reduceMul,Nat.reduceLeDiff,Int.reduceLT,Int.reduceLE,Int.reduceEq,↓reduceIte,Int.reduceNeg,Int.reduceAdd,Int.reduceSub,Int.reduceMul,true_imp_iff,forall_const,Nat.mul_one,Int.reduceToNat,Nat.reducePow,Int.reducePow,Bool.true_and,Bool.false_and,Bool.and_false,hf,←hF]
    refine hlet.use ?_
    simp (disch:=first|assumption|omega|(simp only [List.length_append,List.length_cons,List.length_nil];omega)) only [go_sem,reduceCtorEq,Nat.reduceEqDiff,Nat.reduceAdd,Nat.reduceSub,Nat.reduceMul,Nat.reduceLeDiff,Int.reduceLT,Int.reduceLE,Int.reduceEq,↓reduceIte,Int.reduceNeg,Int.reduceAdd,Int.reduceSub,Int.reduceMul,true_imp_iff,forall_const,Nat.mul_one,Int.reduceToNat,Nat.reducePow,Int.reducePow,Bool.true_and,Bool.false_and,Bool.and_false,hf,←hF]
    refine ⟨(p+w,letterB r,out++smallP E),by dsimp only;omega,Dr.now ⟨h4,by show (out++smallP E).length<=4*(p+w);rw [List.length_append,smallP_len];omega,by rw [List.append_assoc];exact hout,?_,hw2⟩⟩
    simp [AFr.upd,hf]
  | false=>
    rw [if_neg (by decide)] at hout
    simp (disch:=first|assumption|omega|(simp only [List.length_append,List.length_cons,List.length_nil];omega)) only [go_sem,reduceCtorEq,Nat.reduceEqDiff,Nat.reduceAdd,Nat.reduceSub,Nat.reduceMul,Nat.reduceLeDiff,Int.reduceLT,Int.reduceLE,Int.reduceEq,↓reduceIte,Int.reduceNeg,Int.reduceAdd,Int.reduceSub,Int.reduceMul,true_imp_iff,forall_const,Nat.mul_one,Int.reduceToNat,Nat.reducePow,Int.reducePow,Bool.true_and,Bool.false_and,Bool.and_false,hf,hen,←hF]
    refine hgre.use ?_
    simp (disch:=first|assumption|omega|(simp only [List.length_append,List.length_cons,List.length_nil];omega)) only [go_sem,reduceCtorEq,Nat.reduceEqDiff,Nat.reduceAdd,Nat.reduceSub,Nat.reduceMul,Nat.reduceLeDiff,Int.reduceLT,Int.reduceLE,Int.reduceEq,↓reduceIte,Int.reduceNeg,Int.reduceAdd,Int.reduceSub,Int.reduceMul,true_imp_iff,forall_const,Nat.mul_one,Int.reduceToNat,Nat.reducePow,Int.reducePow,Bool.true_and,Bool.false_and,Bool.and_false,hf,←hF]
    refine (writes1_ok hw' (greatP E) (fun e=>by have:=congrArg List.length e;rw [greatP_len,List.length_nil] at this;omega) (by rw [greatP_len];omega)).mono ?_
    rintro v σ2 ⟨rfl,hw2⟩
    simp (disch:=first|assumption|omega|(simp only [List.length_append,List.length_cons,List.length_nil];omega)) only [go_sem,reduceCtorEq,Nat.reduceEqDiff,Nat.reduceAdd,Nat.reduceSub,Nat.reduceMul,Nat.reduceLeDiff,Int.reduceLT,Int.reduceLE,Int.reduceEq,↓reduceIte,Int.reduceNeg,Int.reduceAdd,Int.reduceSub,Int.reduceMul,true_imp_iff,forall_const,Nat.mul_one,Int.reduceToNat,Nat.reducePow,Int.reducePow,Bool.true_and,Bool.false_and,Bool.and_false,hf,←hF]
    refine hlet.use ?_
    simp (disch:=first|assumption|omega|(simp only [List.length_append,List.length_cons,List.length_nil];omega)) only [go_sem,reduceCtorEq,Nat.reduceEqDiff,Nat.reduceAdd,Nat.reduceSub,Nat.reduceMul,Nat.reduceLeDiff,Int.reduceLT,Int.reduceLE,Int.reduceEq,↓reduceIte,Int.reduceNeg,Int.reduceAdd,Int.reduceSub,Int.reduceMul,true_imp_iff,forall_const,Nat.mul_one,Int.reduceToNat,Nat.reducePow,Int.reducePow,Bool.true_and,Bool.false_and,Bool.and_false,hf,←hF]
    refine ⟨(p+w,letterB r,out++greatP E),by dsimp only;omega,Dr.now ⟨h4,by show (out++greatP E).length<=4*(p+w);rw [List.length_append,greatP_len];omega,by rw [List.append_assoc];exact hout,?_,hw2⟩⟩
    simp [AFr.upd,hf]
 ·rw [List.drop_eq_nil_of_le (by omega),propQ_nil,List.append_nil] at hout
  subst hout
  have hσit:=(hw.iter (r' := .iter s p) hbi).2
  have hov:=(hw.over hbi0).drop
  simp (disch:=first|assumption|omega|(simp only [List.length_append,List.length_cons,List.length_nil];omega)) only [go_sem,reduceCtorEq,Nat.reduceEqDiff,Nat.reduceAdd,Nat.reduceSub,Nat.reduceMul,Nat.reduceLeDiff,Int.reduceLT,Int.reduceLE,Int.reduceEq,↓reduceIte,Int.reduceNeg,Int.reduceAdd,Int.reduceSub,Int.reduceMul,true_imp_iff,forall_const,Nat.mul_one,Int.reduceToNat,Nat.reducePow,Int.reducePow,Bool.true_and,Bool.false_and,Bool.and_false,hf,hσit,←hF]
  refine nxt_over (by omega) ?_
  simp (disch:=first|assumption|omega|(simp only [List.length_append,List.length_cons,List.length_nil];omega)) only [go_sem,reduceCtorEq,Nat.reduceEqDiff,Nat.reduceAdd,Nat.reduceSub,Nat.reduceMul,Nat.reduceLeDiff,Int.reduceLT,Int.reduceLE,Int.reduceEq,↓reduceIte,Int.reduceNeg,Int.reduceAdd,Int.reduceSub,Int.reduceMul,true_imp_iff,forall_const,Nat.mul_one,Int.reduceToNat,Nat.reducePow,Int.reducePow,Bool.true_and,Bool.false_and,Bool.and_false,hf,←hF]
  rw [hF]
  simp (disch:=first|assumption|omega|(simp only [List.length_append,List.length_cons,List.length_nil];omega)) only [go_sem,reduceCtorEq,Nat.reduceEqDiff,Nat.reduceAdd,Nat.reduceSub,Nat.reduceMul,Nat.reduceLeDiff,Int.reduceLT,Int.reduceLE,Int.reduceEq,↓reduceIte,Int.reduceNeg,Int.reduceAdd,Int.reduceSub,Int.reduceMul,true_imp_iff,forall_const,Nat.mul_one,Int.reduceToNat,Nat.reducePow,Int.reducePow,Bool.true_and,Bool.false_and,Bool.and_false,hf]
  refine (bstring_ok hw (by omega)).mono ?_
  rintro v σ2 ⟨rfl,rfl⟩
  simp (disch:=first|assumption|omega|(simp only [List.length_append,List.length_cons,List.length_nil];omega)) only [go_sem,reduceCtorEq,Nat.reduceEqDiff,Nat.reduceAdd,Nat.reduceSub,Nat.reduceMul,Nat.reduceLeDiff,Int.reduceLT,Int.reduceLE,Int.reduceEq,↓reduceIte,Int.reduceNeg,Int.reduceAdd,Int.reduceSub,Int.reduceMul,true_imp_iff,forall_const,Nat.mul_one,Int.reduceToNat,Nat.reducePow,Int.reducePow,Bool.true_and,Bool.false_and,Bool.and_false]
  exact retC_by (hov.trans (Drop.set hit0)) (.refl _) ⟨rfl,rfl⟩
end Go.A
namespace Go.A
open Go.Proofs Go.Lib
def errV:List (List UInt8) := [[35,68,73,86,47,48,33],[35,78,85,77,33],[35,86,65,76,85,69,33],[35,82,69,70,33],[35,78,47,65],[35,78,65,77,69,63],[35,67,89,67,76,69,33]]
def showP:PV->List UInt8
 | .fail n=>errV.getD (n-1).toNat []
 | v=>(asTextP v).1
theorem show_ok {σ:ASt} (hT:Tab σ) (v:PV) (hv:v.good):ACalls Tryz.prog 11 [v.av] σ fun r σ'=>r = .str (showP v)/\σ'=σ:=by
 have h1:=failed_ok v
 have h2:=asText_ok hT v hv
 have h3:=errors_ok
 have hc:(∃ m,v = .fail m)\/(failedP v=(0,false)/\showP v=(asTextP v).1):=by
  cases v<;>first|exact .inl ⟨_,rfl⟩|exact .inr ⟨rfl,rfl⟩
 rcases hc with ⟨m,rfl⟩|⟨hc,hs⟩
 ·have hm:1<=m/\m<=7:=hv
  have hcs:m=1\/m=2\/m=3\/m=4\/m=5\/m=6\/m=7:=by omega
  simp only [failedP,PV.av] at h1 ⊢
  refine a11 (by simp) ?_
  simp (disch:=first|assumption|omega|(simp only [List.length_append,List.length_cons,List.length_nil];omega)) only [go_sem,reduceCtorEq,Nat.reduceEqDiff,Nat.reduceAdd,Nat.reduceSub,Nat.reduceMul,Nat.reduceLeDiff,Int.reduceLT,Int.reduceLE,Int.reduceEq,↓reduceIte,Int.reduceNeg,Int.reduceAdd,Int.reduceSub,Int.reduceMul,true_imp_iff,forall_const,Nat.mul_one,Int.reduceToNat,Nat.reducePow,Int.reducePow,Bool.true_and,Bool.false_and,Bool.and_false]
  refine h1.use ?_
  simp (disch:=first|assumption|omega|(simp only [List.length_append,List.length_cons,List.length_nil];omega)) only [go_sem,reduceCtorEq,Nat.reduceEqDiff,Nat.reduceAdd,Nat.reduceSub,Nat.reduceMul,Nat.reduceLeDiff,Int.reduceLT,Int.reduceLE,Int.reduceEq,↓reduceIte,Int.reduceNeg,Int.reduceAdd,Int.reduceSub,Int.reduceMul,true_imp_iff,forall_const,Nat.mul_one,Int.reduceToNat,Nat.reducePow,Int.reducePow,Bool.true_and,Bool.false_and,Bool.and_false]
  refine h3.use ?_
  rcases hcs with rfl|rfl|rfl|rfl|rfl|rfl|rfl
  all_goals
   simp (disch:=first|assumption|omega|(simp only [List.length_append,List.length_cons,List.length_nil];omega)) only [go_sem,reduceCtorEq,Nat.reduceEqDiff,Nat.reduceAdd,Nat.reduceSub,Nat.reduceMul,Nat.reduceLeDiff,Int.reduceLT,Int.reduceLE,Int.reduceEq,↓reduceIte,Int.reduceNeg,Int.reduceAdd,Int.reduceSub,Int.reduceMul,true_imp_iff,forall_const,Nat.mul_one,Int.reduceToNat,Nat.reducePow,Int.reducePow,Bool.true_and,Bool.false_and,Bool.and_false]
   exact retC_by (Drop.refl _) (.refl _) ⟨rfl,rfl⟩
 ·rw [hc] at h1
  rw [hs]
  generalize (asTextP v).1=t at *
  generalize (asTextP v).2=f at *
  generalize v.av=a at *
  refine a11 (by simp) ?_
  simp (disch:=first|assumption|omega|(simp only [List.length_append,List.length_cons,List.length_nil];omega)) only [go_sem,reduceCtorEq,Nat.reduceEqDiff,Nat.reduceAdd,Nat.reduceSub,Nat.reduceMul,Nat.reduceLeDiff,Int.reduceLT,Int.reduceLE,Int.reduceEq,↓reduceIte,Int.reduceNeg,Int.reduceAdd,Int.reduceSub,Int.reduceMul,true_imp_iff,forall_const,Nat.mul_one,Int.reduceToNat,Nat.reducePow,Int.reducePow,Bool.true_and,Bool.false_and,Bool.and_false]
  refine h1.use ?_
  simp (disch:=first|assumption|omega|(simp only [List.length_append,List.length_cons,List.length_nil];omega)) only [go_sem,reduceCtorEq,Nat.reduceEqDiff,Nat.reduceAdd,Nat.reduceSub,Nat.reduceMul,Nat.reduceLeDiff,Int.reduceLT,Int.reduceLE,Int.reduceEq,↓reduceIte,Int.reduceNeg,Int.reduceAdd,Int.reduceSub,Int.reduceMul,true_imp_iff,forall_const,Nat.mul_one,Int.reduceToNat,Nat.reducePow,Int.reducePow,Bool.true_and,Bool.false_and,Bool.and_false]
  refine h2.mono ?_
  rintro r σ' ⟨rfl,rfl⟩
  simp (disch:=first|assumption|omega|(simp only [List.length_append,List.length_cons,List.length_nil];omega)) only [go_sem,reduceCtorEq,Nat.reduceEqDiff,Nat.reduceAdd,Nat.reduceSub,Nat.reduceMul,Nat.reduceLeDiff,Int.reduceLT,Int.reduceLE,Int.reduceEq,↓reduceIte,Int.reduceNeg,Int.reduceAdd,Int.reduceSub,Int.reduceMul,true_imp_iff,forall_const,Nat.mul_one,Int.reduceToNat,Nat.reducePow,Int.reducePow,Bool.true_and,Bool.false_and,Bool.and_false]
  exact retC_by (Drop.refl _) (.refl _) ⟨rfl,rfl⟩
end Go.A
