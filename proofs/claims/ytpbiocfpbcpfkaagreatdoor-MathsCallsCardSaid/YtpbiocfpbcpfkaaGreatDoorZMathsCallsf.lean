/- Part 6 of what MathsCalls leans on: Hv Rq Hdv Hmu Rr Hzb. -/
import Derived.Test.YtpbiocfpbcpfkaaGreatDoorZMathsCallse
set_option linter.defProp false
set_option linter.unusedSimpArgs false
set_option linter.unusedVariables false
set_option maxRecDepth 100000
namespace Go.A
open Go.Proofs
theorem dec_step (n:Nat):Lib.decDigits n=if n<10 then [UInt8.ofNat (48+n)] else Lib.decDigits (n / 10) ++ [UInt8.ofNat (48+n % 10)]:=by
 rw [Lib.decDigits]
 by_cases h1:n<10
 ·rw [dif_pos h1,if_pos h1]
 ·rw [dif_neg h1,if_neg h1]
theorem rdigits_ok (n:Nat) (hn:n<18446744073709551616):Pure Tryz.prog 78 [.int .u64 n] (.str (Lib.decDigits n)):=by
 intro σ
 refine a78 (by simp) ?_
 obtain ⟨D,hD⟩:∃ D,Lib.decDigits n=D:=⟨_,rfl⟩
 rw [hD]
 simp (disch:=first|assumption|omega|(simp only [List.length_append,List.length_cons,List.length_nil];omega)) only [go_sem,reduceCtorEq,Nat.reduceEqDiff,Nat.reduceAdd,Nat.reduceSub,Nat.reduceMul,Nat.reduceLeDiff,Int.reduceLT,Int.reduceLE,Int.reduceEq,↓reduceIte,Int.reduceNeg,Int.reduceAdd,Int.reduceSub,Int.reduceMul,true_imp_iff,forall_const,Nat.mul_one,Int.reduceToNat,Nat.reducePow,Int.reducePow,Bool.true_and,Bool.false_and,Bool.and_false]
 refine wp_loop_on (fun (i:Nat×Nat×List UInt8) a σ'=>i.1<=20/\i.2.1<=n/\i.2.1<10 ^ (20-i.1)/\i.2.2.length=i.1/\((i.1=0/\Lib.decDigits i.2.1=D)\/(0<i.1/\(if i.2.1=0 then [] else Lib.decDigits i.2.1)++i.2.2=D))/\(a 0 = .int .u64 i.2.1/\a 3 = .str i.2.2/\a 4 = .int .i64 i.1)/\σ'=σ)
  (fun i=>20-i.1) (0,n,[]) ⟨by simp,Nat.le_refl _,by simp;omega,rfl,.inl ⟨rfl,hD⟩,?_,rfl⟩ ?_
 ·simp (disch:=first|assumption|omega|(simp only [List.length_append,List.length_cons,List.length_nil];omega)) only [go_sem,reduceCtorEq,Nat.reduceEqDiff,Nat.reduceAdd,Nat.reduceSub,Nat.reduceMul,Nat.reduceLeDiff,Int.reduceLT,Int.reduceLE,Int.reduceEq,↓reduceIte,Int.reduceNeg,Int.reduceAdd,Int.reduceSub,Int.reduceMul,true_imp_iff,forall_const,Nat.mul_one,Int.reduceToNat,Nat.reducePow,Int.reducePow,Bool.true_and,Bool.false_and,Bool.and_false]
 rintro ⟨i,m,s⟩ a σ1 ⟨hi,hmn,hm,hs,hx,⟨f0,f3,f4⟩,rfl⟩
 dsimp only at hi hmn hm hs hx f0 f3 f4
 by_cases hend:i=20\/(0<i/\m=0)
 ·have hsD:s=D:=by
   rcases hx with ⟨h1,h2⟩|⟨h1,h2⟩
   ·omega
   ·have:m=0:=by
     rcases hend with rfl|h
     ·simpa using hm
     ·exact h.2
    rw [if_pos this] at h2
    exact h2
  by_cases h20:i=20
  ·have e1:¬ (i:Int)<20:=by omega
   simp (disch:=first|assumption|omega|(simp only [List.length_append,List.length_cons,List.length_nil];omega)) only [go_sem,reduceCtorEq,Nat.reduceEqDiff,Nat.reduceAdd,Nat.reduceSub,Nat.reduceMul,Nat.reduceLeDiff,Int.reduceLT,Int.reduceLE,Int.reduceEq,↓reduceIte,Int.reduceNeg,Int.reduceAdd,Int.reduceSub,Int.reduceMul,true_imp_iff,forall_const,Nat.mul_one,Int.reduceToNat,Nat.reducePow,Int.reducePow,Bool.true_and,Bool.false_and,Bool.and_false,f0,f3,f4,e1]
   exact retC_by (Drop.refl _) (.refl _) ⟨by rw [<-hsD];rfl,rfl⟩
  ·have e1:(i:Int)<20:=by omega
   have e2:¬ (i:Int)=0:=by omega
   have e3:¬ (0:Int)<m:=by omega
   simp (disch:=first|assumption|omega|(simp only [List.length_append,List.length_cons,List.length_nil];omega)) only [go_sem,reduceCtorEq,Nat.reduceEqDiff,Nat.reduceAdd,Nat.reduceSub,Nat.reduceMul,Nat.reduceLeDiff,Int.reduceLT,Int.reduceLE,Int.reduceEq,↓reduceIte,Int.reduceNeg,Int.reduceAdd,Int.reduceSub,Int.reduceMul,true_imp_iff,forall_const,Nat.mul_one,Int.reduceToNat,Nat.reducePow,Int.reducePow,Bool.true_and,Bool.false_and,Bool.and_false,f0,f3,f4,e1,e2,e3]
   exact retC_by (Drop.refl _) (.refl _) ⟨by rw [<-hsD];rfl,rfl⟩
 ·have e1:(i:Int)<20:=by omega
  have t1:(m:Int).tmod 10=((m % 10:Nat):Int):=rfl
  have t2:(m:Int).tdiv 10=((m / 10:Nat):Int):=rfl
  have e4:(48+((m % 10:Nat):Int)).toNat=48+m % 10:=by omega
  have hs1:1+s.length<=9223372036854775807:=by omega
  have hstep:(0<i->m≠0)->(if m / 10=0 then [] else Lib.decDigits (m / 10))++(UInt8.ofNat (48+m % 10)::s)=Lib.decDigits m++s:=by
   intro _
   rw [dec_step m]
   by_cases h10:m<10
   ·rw [if_pos h10,if_pos (by omega),show m % 10=m by omega];rfl
   ·rw [if_neg h10,if_neg (by omega)];simp
  have g2:m / 10<10 ^ (20-(i+1)):=by
   rw [show 20-i=(20-(i+1))+1 by omega,Nat.pow_succ] at hm
   omega
  have g4:(if m / 10=0 then [] else Lib.decDigits (m / 10))++(UInt8.ofNat (48+m % 10)::s)=D:=by
   rw [hstep (by omega)]
   rcases hx with ⟨h1,h2⟩|⟨h1,h2⟩
   ·subst h1
    rw [List.eq_nil_of_length_eq_zero hs,List.append_nil]
    exact h2
   ·rw [if_neg (by omega)] at h2
    exact h2
  by_cases h0:i=0
  ·subst h0
   simp (disch:=first|assumption|omega|(simp only [List.length_append,List.length_cons,List.length_nil];omega)) only [go_sem,reduceCtorEq,Nat.reduceEqDiff,Nat.reduceAdd,Nat.reduceSub,Nat.reduceMul,Nat.reduceLeDiff,Int.reduceLT,Int.reduceLE,Int.reduceEq,↓reduceIte,Int.reduceNeg,Int.reduceAdd,Int.reduceSub,Int.reduceMul,true_imp_iff,forall_const,Nat.mul_one,Int.reduceToNat,Nat.reducePow,Int.reducePow,Bool.true_and,Bool.false_and,Bool.and_false,f0,f3,f4,e1,t1,t2,e4,hs1]
   exact ⟨(0+1,m / 10,UInt8.ofNat (48+m % 10)::s),by dsimp only;omega,by dsimp only;omega,by dsimp only;omega,g2,by simp [hs],.inr ⟨by dsimp only;omega,g4⟩,rfl,rfl,rfl⟩
  ·have e2:¬ (i:Int)=0:=by omega
   have e3:(0:Int)<m:=by omega
   simp (disch:=first|assumption|omega|(simp only [List.length_append,List.length_cons,List.length_nil];omega)) only [go_sem,reduceCtorEq,Nat.reduceEqDiff,Nat.reduceAdd,Nat.reduceSub,Nat.reduceMul,Nat.reduceLeDiff,Int.reduceLT,Int.reduceLE,Int.reduceEq,↓reduceIte,Int.reduceNeg,Int.reduceAdd,Int.reduceSub,Int.reduceMul,true_imp_iff,forall_const,Nat.mul_one,Int.reduceToNat,Nat.reducePow,Int.reducePow,Bool.true_and,Bool.false_and,Bool.and_false,f0,f3,f4,e1,e2,e3,t1,t2,e4,hs1]
   exact ⟨(i+1,m / 10,UInt8.ofNat (48+m % 10)::s),by dsimp only;omega,by dsimp only;omega,by dsimp only;omega,g2,by simp [hs],.inr ⟨by dsimp only;omega,g4⟩,rfl,rfl,rfl⟩
def AllD (l:List UInt8):Prop:=∀ c∈l,48<=c.toNat/\c.toNat<=57
def nv:List UInt8->Nat
 | []=>0
 | c::l=>(c.toNat-48)*10 ^ l.length+nv l
theorem nv_lt:∀ {l:List UInt8},AllD l->nv l<10 ^ l.length
 | [],_=>by simp [nv]
 | c::l,h=>by
   have h1:=nv_lt fun d hd=>h d (List.mem_cons_of_mem _ hd)
   have h2:=h c (List.mem_cons_self)
   have h3:(c.toNat-48)*10 ^ l.length<=9*10 ^ l.length:=Nat.mul_le_mul_right _ (by omega)
   simp only [nv,List.length_cons,Nat.pow_succ]
   omega
theorem nv_app:∀ (l m:List UInt8),nv (l++m)=nv l*10 ^ m.length+nv m
 | [],m=>by simp [nv]
 | c::l,m=>by
   rw [List.cons_append,nv,nv_app l m,nv,List.length_append,Nat.pow_add,Nat.add_mul,Nat.mul_assoc,Nat.add_assoc]
theorem nv_zeros (k:Nat):nv (List.replicate k 48)=0:=by
 induction k with
 | zero=>rfl
 | succ k ih=>rw [List.replicate_succ,nv,ih];simp
theorem nv_dd:∀ (n:Nat),nv (Lib.decDigits n)=n:=by
 intro n
 induction n using Nat.strongRecOn with
 | _ n ih=>
   by_cases h:n<10
   ·rw [dd_small h]
    simp only [nv,dig_nat h,List.length_nil]
    omega
   ·rw [dd_big h,nv_app,ih (n / 10) (by omega)]
    simp only [nv,dig_nat (show n % 10<10 by omega),List.length_cons,List.length_nil]
    omega
theorem acc_total:∀ {l:List UInt8} {n:Nat},AllD l->n<=999999999999999999->accP n l=if n*10 ^ l.length+nv l<=999999999999999999 then some (n*10 ^ l.length+nv l) else none
 | [],n,_,hn=>by simp [accP,nv,hn]
 | c::l,n,h,hn=>by
   have h2:=h c (List.mem_cons_self)
   have hl:AllD l:=fun d hd=>h d (List.mem_cons_of_mem _ hd)
   have hp:0<10 ^ l.length:=Nat.pow_pos (by omega)
   have e:n*10 ^ (c::l).length+nv (c::l)=(10*n+(c.toNat-48))*10 ^ l.length+nv l:=by
    rw [nv,List.length_cons,Nat.pow_succ,Nat.add_mul,Nat.mul_comm 10 n,← Nat.mul_assoc,Nat.mul_right_comm n]
    omega
   rw [accP,e]
   by_cases hb:99999999999999999<n
   ·rw [if_pos (by omega),if_neg]
    have:=Nat.mul_le_mul (show 1000000000000000000<=10*n+(c.toNat-48) by omega) hp
    omega
   ·rw [if_neg (by omega),acc_total hl (by omega)]
def stripP (l:List UInt8):List UInt8:=l.dropWhile (· == 48)
theorem nv_strip:∀ (l:List UInt8),nv (stripP l)=nv l
 | []=>rfl
 | c::l=>by
   unfold stripP
   by_cases h:c=48
   ·subst h
    rw [List.dropWhile_cons,if_pos (by rfl)]
    have:=nv_strip l
    unfold stripP at this
    rw [this,nv]
    simp
   ·rw [List.dropWhile_cons,if_neg (by simpa using h)]
def valP (m:Bool) (l:List UInt8):Option Int:=madeP m (nv l)
theorem strip_ok (s:List UInt8) (hs:s.length<=1000000):Pure Tryz.prog 81 [.str s] (.str (stripP s)):=by
 intro σ
 refine a81 (by simp) ?_
 simp (disch:=first|assumption|omega|(simp only [List.length_append,List.length_cons,List.length_nil];omega)) only [go_sem,reduceCtorEq,Nat.reduceEqDiff,Nat.reduceAdd,Nat.reduceSub,Nat.reduceMul,Nat.reduceLeDiff,Int.reduceLT,Int.reduceLE,Int.reduceEq,↓reduceIte,Int.reduceNeg,Int.reduceAdd,Int.reduceSub,Int.reduceMul,true_imp_iff,forall_const,Nat.mul_one,Int.reduceToNat,Nat.reducePow,Int.reducePow,Bool.true_and,Bool.false_and,Bool.and_false]
 refine wp_loop_on (fun (l:List UInt8) a s2=>stripP l=stripP s/\l.length<=1000000/\(a 0 = .str l)/\s2=σ) (fun l=>l.length) s ⟨rfl,hs,?_,rfl⟩ ?_
 ·simp (disch:=first|assumption|omega|(simp only [List.length_append,List.length_cons,List.length_nil];omega)) only [go_sem,reduceCtorEq,Nat.reduceEqDiff,Nat.reduceAdd,Nat.reduceSub,Nat.reduceMul,Nat.reduceLeDiff,Int.reduceLT,Int.reduceLE,Int.reduceEq,↓reduceIte,Int.reduceNeg,Int.reduceAdd,Int.reduceSub,Int.reduceMul,true_imp_iff,forall_const,Nat.mul_one,Int.reduceToNat,Nat.reducePow,Int.reducePow,Bool.true_and,Bool.false_and,Bool.and_false]
 rintro l a s2 ⟨hl,hlen,hf,rfl⟩
 cases l with
 | nil=>
   simp (disch:=first|assumption|omega|(simp only [List.length_append,List.length_cons,List.length_nil];omega)) only [go_sem,reduceCtorEq,Nat.reduceEqDiff,Nat.reduceAdd,Nat.reduceSub,Nat.reduceMul,Nat.reduceLeDiff,Int.reduceLT,Int.reduceLE,Int.reduceEq,↓reduceIte,Int.reduceNeg,Int.reduceAdd,Int.reduceSub,Int.reduceMul,true_imp_iff,forall_const,Nat.mul_one,Int.reduceToNat,Nat.reducePow,Int.reducePow,Bool.true_and,Bool.false_and,Bool.and_false,hf]
   exact retC_by (by repeat' (first|exact Drop.refl _|with_reducible refine Drop.off ?_ (by assumption))) (.refl _) ⟨by rw [<-hl];rfl,rfl⟩
 | cons c l=>
   obtain ⟨m,hm⟩:∃ m,m=c::l:=⟨_,rfl⟩
   have hidx:m[0]? = some c:=by rw [hm];rfl
   have hd1:m.drop 1=l:=by rw [hm];rfl
   have hml:m.length=l.length+1:=by rw [hm];rfl
   rw [<-hm] at hl hlen hf
   rw [<-hm]
   have g0:(0:Int)<m.length:=by omega
   have g1:(1:Int)<=m.length:=by omega
   by_cases h48:c=48
   ·have h48':(c.toNat:Int)=48:=by rw [h48];rfl
    have hs2:stripP l=stripP s:=by rw [<-hl,hm,h48];rfl
    simp (disch:=first|assumption|omega|(simp only [List.length_append,List.length_cons,List.length_nil];omega)) only [go_sem,reduceCtorEq,Nat.reduceEqDiff,Nat.reduceAdd,Nat.reduceSub,Nat.reduceMul,Nat.reduceLeDiff,Int.reduceLT,Int.reduceLE,Int.reduceEq,↓reduceIte,Int.reduceNeg,Int.reduceAdd,Int.reduceSub,Int.reduceMul,true_imp_iff,forall_const,Nat.mul_one,Int.reduceToNat,Nat.reducePow,Int.reducePow,Bool.true_and,Bool.false_and,Bool.and_false,hf,hidx,g0,g1,h48',hd1,List.take_length]
    exact ⟨l,by omega,hs2,by omega,rfl⟩
   ·have h48':¬ (c.toNat:Int)=48:=by
     intro h
     exact h48 (UInt8.toNat_inj.1 (by have e:(48:UInt8).toNat=48:=rfl;omega))
    have hs2:m=stripP s:=by
     rw [<-hl,hm]
     unfold stripP
     rw [List.dropWhile_cons,if_neg (by simpa using h48)]
    simp (disch:=first|assumption|omega|(simp only [List.length_append,List.length_cons,List.length_nil];omega)) only [go_sem,reduceCtorEq,Nat.reduceEqDiff,Nat.reduceAdd,Nat.reduceSub,Nat.reduceMul,Nat.reduceLeDiff,Int.reduceLT,Int.reduceLE,Int.reduceEq,↓reduceIte,Int.reduceNeg,Int.reduceAdd,Int.reduceSub,Int.reduceMul,true_imp_iff,forall_const,Nat.mul_one,Int.reduceToNat,Nat.reducePow,Int.reducePow,Bool.true_and,Bool.false_and,Bool.and_false,hf,hidx,g0,h48']
    exact retC_by (by repeat' (first|exact Drop.refl _|with_reducible refine Drop.off ?_ (by assumption))) (.refl _) ⟨by rw [<-hs2];rfl,rfl⟩
theorem value_ok (m:Bool) (s:List UInt8) (hs:AllD s) (hl:s.length<=1000000):Pure Tryz.prog 79 [.bool m,.str s] (resAV (valP m s)):=by
 intro σ
 have htot:=acc_total hs (n:=0) (by omega)
 rw [Nat.zero_mul,Nat.zero_add] at htot
 refine a79 (by simp) ?_
 simp (disch:=first|assumption|omega|(simp only [List.length_append,List.length_cons,List.length_nil];omega)) only [go_sem,reduceCtorEq,Nat.reduceEqDiff,Nat.reduceAdd,Nat.reduceSub,Nat.reduceMul,Nat.reduceLeDiff,Int.reduceLT,Int.reduceLE,Int.reduceEq,↓reduceIte,Int.reduceNeg,Int.reduceAdd,Int.reduceSub,Int.reduceMul,true_imp_iff,forall_const,Nat.mul_one,Int.reduceToNat,Nat.reducePow,Int.reducePow,Bool.true_and,Bool.false_and,Bool.and_false]
 refine wp_loop_on (fun (i:Nat) a s2=>i<=s.length/\(∃ n:Nat,n<=999999999999999999/\accP 0 s=accP n (s.drop i)/\a 6 = .int .u64 n)/\(a 0 = .bool m/\a 1 = .str s/\a 7 = .int .i64 i)/\s2=σ) (fun i=>s.length-i) 0 ⟨Nat.zero_le _,⟨0,by omega,rfl,?_⟩,?_,rfl⟩ ?_
 ·simp (disch:=first|assumption|omega|(simp only [List.length_append,List.length_cons,List.length_nil];omega)) only [go_sem,reduceCtorEq,Nat.reduceEqDiff,Nat.reduceAdd,Nat.reduceSub,Nat.reduceMul,Nat.reduceLeDiff,Int.reduceLT,Int.reduceLE,Int.reduceEq,↓reduceIte,Int.reduceNeg,Int.reduceAdd,Int.reduceSub,Int.reduceMul,true_imp_iff,forall_const,Nat.mul_one,Int.reduceToNat,Nat.reducePow,Int.reducePow,Bool.true_and,Bool.false_and,Bool.and_false]
 ·simp (disch:=first|assumption|omega|(simp only [List.length_append,List.length_cons,List.length_nil];omega)) only [go_sem,reduceCtorEq,Nat.reduceEqDiff,Nat.reduceAdd,Nat.reduceSub,Nat.reduceMul,Nat.reduceLeDiff,Int.reduceLT,Int.reduceLE,Int.reduceEq,↓reduceIte,Int.reduceNeg,Int.reduceAdd,Int.reduceSub,Int.reduceMul,true_imp_iff,forall_const,Nat.mul_one,Int.reduceToNat,Nat.reducePow,Int.reducePow,Bool.true_and,Bool.false_and,Bool.and_false]
 rintro i a s2 ⟨hi,⟨n,hn,hac,h6⟩,hf,rfl⟩
 by_cases hlt:i<s.length
 ·have hidx : s[i]? = some (s[i]'hlt) := List.getElem?_eq_getElem hlt
  rw [List.drop_eq_getElem_cons hlt] at hac
  have hc:=hs _ (List.getElem_mem hlt)
  obtain ⟨c, hce⟩ : ∃ c, s[i]'hlt = c := ⟨_, rfl⟩
  rw [hce] at hidx hac hc
  have hlt':(i:Int)<s.length:=by omega
  rw [accP] at hac
  by_cases h3:99999999999999999<n
  ·have h3':(99999999999999999:Int)<n:=by omega
   rw [if_pos (by omega)] at hac
   have hno:valP m s=none:=by
    unfold valP madeP
    rw [if_neg]
    intro hle
    rw [if_pos hle] at htot
    rw [htot] at hac
    cases hac
   rw [hno]
   simp (disch:=first|assumption|omega|(simp only [List.length_append,List.length_cons,List.length_nil];omega)) only [go_sem,reduceCtorEq,Nat.reduceEqDiff,Nat.reduceAdd,Nat.reduceSub,Nat.reduceMul,Nat.reduceLeDiff,Int.reduceLT,Int.reduceLE,Int.reduceEq,↓reduceIte,Int.reduceNeg,Int.reduceAdd,Int.reduceSub,Int.reduceMul,true_imp_iff,forall_const,Nat.mul_one,Int.reduceToNat,Nat.reducePow,Int.reducePow,Bool.true_and,Bool.false_and,Bool.and_false,hf,h6,hlt',h3']
   exact retC_by (by repeat' (first|exact Drop.refl _|with_reducible refine Drop.off ?_ (by assumption))) (.refl _) ⟨rfl,rfl⟩
  ·have h3':¬ (99999999999999999:Int)<n:=by omega
   rw [if_neg (by omega)] at hac
   obtain ⟨n2,hn2⟩:∃ n2:Nat,10*n+(c.toNat-48)=n2:=⟨_,rfl⟩
   rw [hn2] at hac
   have e2:10*(n:Int)+(c.toNat:Int)-48=n2:=by omega
   have hcb:c.toNat<256:=c.toNat_lt
   simp (disch:=first|assumption|omega|(simp only [List.length_append,List.length_cons,List.length_nil];omega)) only [go_sem,reduceCtorEq,Nat.reduceEqDiff,Nat.reduceAdd,Nat.reduceSub,Nat.reduceMul,Nat.reduceLeDiff,Int.reduceLT,Int.reduceLE,Int.reduceEq,↓reduceIte,Int.reduceNeg,Int.reduceAdd,Int.reduceSub,Int.reduceMul,true_imp_iff,forall_const,Nat.mul_one,Int.reduceToNat,Nat.reducePow,Int.reducePow,Bool.true_and,Bool.false_and,Bool.and_false,hf,h6,hlt',h3',hidx,e2]
   exact ⟨i+1,by omega,by omega,⟨n2,by omega,hac,rfl⟩,rfl⟩
 ·have hlt':¬ (i:Int)<s.length:=by omega
  rw [List.drop_eq_nil_of_le (by omega),accP,htot] at hac
  have hnv:nv s=n:=by
   split at hac
   ·injection hac
   ·cases hac
  have hv:valP m s=some (if m=true then -(n:Int) else n):=by
   unfold valP madeP
   rw [hnv,if_pos hn]
  rw [hv]
  have g1:¬ (999999999999999999:Int)<n:=by omega
  have e1:IntKind.i64.wrap (n:Int)=n:=by rw [IntKind.wrap_i64];omega
  cases m
  ·simp (disch:=first|assumption|omega|(simp only [List.length_append,List.length_cons,List.length_nil];omega)) only [go_sem,reduceCtorEq,Nat.reduceEqDiff,Nat.reduceAdd,Nat.reduceSub,Nat.reduceMul,Nat.reduceLeDiff,Int.reduceLT,Int.reduceLE,Int.reduceEq,↓reduceIte,Int.reduceNeg,Int.reduceAdd,Int.reduceSub,Int.reduceMul,true_imp_iff,forall_const,Nat.mul_one,Int.reduceToNat,Nat.reducePow,Int.reducePow,Bool.true_and,Bool.false_and,Bool.and_false,hf,h6,hlt',g1,e1]
   exact retC_by (by repeat' (first|exact Drop.refl _|with_reducible refine Drop.off ?_ (by assumption))) (.refl _) ⟨rfl,rfl⟩
  ·simp (disch:=first|assumption|omega|(simp only [List.length_append,List.length_cons,List.length_nil];omega)) only [go_sem,reduceCtorEq,Nat.reduceEqDiff,Nat.reduceAdd,Nat.reduceSub,Nat.reduceMul,Nat.reduceLeDiff,Int.reduceLT,Int.reduceLE,Int.reduceEq,↓reduceIte,Int.reduceNeg,Int.reduceAdd,Int.reduceSub,Int.reduceMul,true_imp_iff,forall_const,Nat.mul_one,Int.reduceToNat,Nat.reducePow,Int.reducePow,Bool.true_and,Bool.false_and,Bool.and_false,hf,h6,hlt',g1,e1]
   refine retC_by (by repeat' (first|exact Drop.refl _|with_reducible refine Drop.off ?_ (by assumption))) (.refl _) ⟨?_,rfl⟩
   rw [show (0:Int)-n = -n by omega]
   rfl
end Go.A
namespace Go.A
open Go.Proofs
def incC:List UInt8->List UInt8×Bool
 | []=>([],true)
 | c::l=>if (incC l).2=true then (if c.toNat<57 then ((c+1)::(incC l).1,false) else (48::(incC l).1,true)) else (c::(incC l).1,false)
def incP (s:List UInt8):List UInt8:=if (incC s).2=true then 49::(incC s).1 else (incC s).1
theorem incC_len:∀ (l:List UInt8),(incC l).1.length=l.length
 | []=>rfl
 | c::l=>by
   rw [incC]
   have:=incC_len l
   split
   ·split<;>simp [this]
   ·simp [this]
theorem succ_nat {c:UInt8} (h:c.toNat<57):(c+1).toNat=c.toNat+1:=by
 rw [UInt8.toNat_add,UInt8.toNat_one]
 omega
theorem incC_law:∀ {l:List UInt8},AllD l->AllD (incC l).1/\nv (incC l).1+(if (incC l).2=true then 10 ^ l.length else 0)=nv l+1
 | [],_=>⟨by simp [incC,AllD],by simp [incC,nv]⟩
 | c::l,h=>by
   have hl:AllD l:=fun d hd=>h d (List.mem_cons_of_mem _ hd)
   have hc:=h c (List.mem_cons_self)
   obtain ⟨h1,h2⟩:=incC_law hl
   have hlen:=incC_len l
   rw [incC]
   by_cases hk:(incC l).2=true
   ·rw [if_pos hk] at h2 ⊢
    by_cases h57:c.toNat<57
    ·rw [if_pos h57]
     have hs:=succ_nat h57
     refine ⟨fun d hd=>?_,?_⟩
     ·rcases List.mem_cons.1 hd with rfl|hd
      ·omega
      ·exact h1 d hd
     ·simp only [nv,hs,hlen,Bool.false_eq_true,if_false]
      rw [show c.toNat+1-48=(c.toNat-48)+1 by omega,Nat.add_mul]
      omega
    ·rw [if_neg h57]
     refine ⟨fun d hd=>?_,?_⟩
     ·rcases List.mem_cons.1 hd with rfl|hd
      ·decide
      ·exact h1 d hd
     ·simp only [nv,hlen,if_true,List.length_cons,Nat.pow_succ]
      rw [show c.toNat-48=9 by omega]
      have e:(48:UInt8).toNat=48:=rfl
      rw [e]
      omega
   ·rw [if_neg hk] at h2 ⊢
    refine ⟨fun d hd=>?_,?_⟩
    ·rcases List.mem_cons.1 hd with rfl|hd
     ·exact hc
     ·exact h1 d hd
    ·simp only [nv,hlen,Bool.false_eq_true,if_false]
     omega
theorem incP_law {l:List UInt8} (h:AllD l):AllD (incP l)/\nv (incP l)=nv l+1:=by
 obtain ⟨h1,h2⟩:=incC_law h
 have hlen:=incC_len l
 unfold incP
 split
 ·rename_i hk
  rw [if_pos hk] at h2
  refine ⟨fun d hd=>?_,?_⟩
  ·rcases List.mem_cons.1 hd with rfl|hd
   ·decide
   ·exact h1 d hd
  ·have e:(49:UInt8).toNat=49:=rfl
   simp only [nv,hlen,e]
   omega
 ·rename_i hk
  rw [if_neg hk] at h2
  exact ⟨h1,by omega⟩
theorem incC_left:∀ {p q q':List UInt8},incC q=(q',false)->incC (p++q)=(p++q',false)
 | [],q,q',h=>h
 | c::p,q,q',h=>by
   rw [List.cons_append,incC,incC_left h]
   rfl
theorem inc_ok (s:List UInt8) (hs:s.length<=1000000):Pure Tryz.prog 93 [.str s] (.str (incP s)):=by
 intro σ
 refine a93 (by simp) ?_
 simp (disch:=first|assumption|omega|(simp only [List.length_append,List.length_cons,List.length_nil];omega)) only [go_sem,reduceCtorEq,Nat.reduceEqDiff,Nat.reduceAdd,Nat.reduceSub,Nat.reduceMul,Nat.reduceLeDiff,Int.reduceLT,Int.reduceLE,Int.reduceEq,↓reduceIte,Int.reduceNeg,Int.reduceAdd,Int.reduceSub,Int.reduceMul,true_imp_iff,forall_const,Nat.mul_one,Int.reduceToNat,Nat.reducePow,Int.reducePow,Bool.true_and,Bool.false_and,Bool.and_false]
 refine s2b_own fun b cp hb hcp=>?_
 simp (disch:=first|assumption|omega|(simp only [List.length_append,List.length_cons,List.length_nil];omega)) only [go_sem,reduceCtorEq,Nat.reduceEqDiff,Nat.reduceAdd,Nat.reduceSub,Nat.reduceMul,Nat.reduceLeDiff,Int.reduceLT,Int.reduceLE,Int.reduceEq,↓reduceIte,Int.reduceNeg,Int.reduceAdd,Int.reduceSub,Int.reduceMul,true_imp_iff,forall_const,Nat.mul_one,Int.reduceToNat,Nat.reducePow,Int.reducePow,Bool.true_and,Bool.false_and,Bool.and_false]
 refine wp_loop_on (fun (r:Nat) a σ'=>r<=s.length/\(incC (s.drop r)).2=true/\(a 3 = .msl b 0 s.length cp/\a 4 = .int .i64 ((r:Int)-1))/\σ'=σ.set b (some (.obj (bytesAV (s.take r++(incC (s.drop r)).1)))))
  (fun r=>r) s.length ⟨Nat.le_refl _,by rw [List.drop_eq_nil_of_le (Nat.le_refl _)];rfl,?_,by rw [List.drop_eq_nil_of_le (Nat.le_refl _),List.take_of_length_le (Nat.le_refl _)];simp [incC]⟩ ?_
 ·simp (disch:=first|assumption|omega|(simp only [List.length_append,List.length_cons,List.length_nil];omega)) only [go_sem,reduceCtorEq,Nat.reduceEqDiff,Nat.reduceAdd,Nat.reduceSub,Nat.reduceMul,Nat.reduceLeDiff,Int.reduceLT,Int.reduceLE,Int.reduceEq,↓reduceIte,Int.reduceNeg,Int.reduceAdd,Int.reduceSub,Int.reduceMul,true_imp_iff,forall_const,Nat.mul_one,Int.reduceToNat,Nat.reducePow,Int.reducePow,Bool.true_and,Bool.false_and,Bool.and_false]
 rintro r a σ1 ⟨hr,hk,hf,rfl⟩
 have hSl:=incC_len (s.drop r)
 obtain ⟨m,hm⟩:∃ m,s.take r++(incC (s.drop r)).1=m:=⟨_,rfl⟩
 have hml:m.length=s.length:=by rw [<-hm];simp [hSl];omega
 rw [hm]
 by_cases h0:r=0
 ·subst h0
  have g0:¬ (0:Int)<=((0:Nat):Int)-1:=by omega
  have hle2:s.length<=m.length:=by omega
  have htk:=bytes_all hml
  have hres:incP s=49::m:=by
   rw [List.drop_zero] at hk hm
   unfold incP
   rw [if_pos hk,← hm]
   rfl
  have e1:binS .add [49] m=some (.str (49::m)):=binS_add (by simp;omega)
  rw [hres]
  simp (disch:=first|assumption|omega|(simp only [List.length_append,List.length_cons,List.length_nil];omega)) only [go_sem,reduceCtorEq,Nat.reduceEqDiff,Nat.reduceAdd,Nat.reduceSub,Nat.reduceMul,Nat.reduceLeDiff,Int.reduceLT,Int.reduceLE,Int.reduceEq,↓reduceIte,Int.reduceNeg,Int.reduceAdd,Int.reduceSub,Int.reduceMul,true_imp_iff,forall_const,Nat.mul_one,Int.reduceToNat,Nat.reducePow,Int.reducePow,Bool.true_and,Bool.false_and,Bool.and_false,hf,g0,hle2,htk,e1]
  exact retC_by (by repeat' (first|exact Drop.refl _|with_reducible refine Drop.off ?_ (by assumption))) (.refl _) ⟨rfl,rfl⟩
 ·obtain ⟨k,rfl⟩:∃ k,r=k+1:=⟨r-1,by omega⟩
  have hlt:k<s.length:=by omega
  have e0:((k+1:Nat):Int)-1=k:=by omega
  rw [e0] at hf
  obtain ⟨c, hc⟩ : ∃ c, s[k]'hlt = c := ⟨_, rfl⟩
  have hdk:s.drop k=c::s.drop (k+1):=by rw [List.drop_eq_getElem_cons hlt,hc]
  have hS:∀ x:UInt8,m.set k x=s.take k++x::(incC (s.drop (k+1))).1:=by
   intro x
   rw [<-hm,List.take_succ_eq_append_getElem hlt,List.append_assoc,List.set_append_right _ _ (by simp;omega)]
   have e:k-(s.take k).length=0:=by simp;omega
   rw [e]
   rfl
  have hidx:m[k]? = some c:=by
   rw [<-hm,List.take_succ_eq_append_getElem hlt,hc,List.append_assoc,List.getElem?_append_right (by simp;omega)]
   have e:k-(s.take k).length=0:=by simp;omega
   rw [e]
   rfl
  have hcb:=u8_lt c
  have hle:k+1<=m.length:=by omega
  have g0:(0:Int)<=(k:Int):=by omega
  by_cases h57:c.toNat<57
  ·have h57':(c.toNat:Int)<57:=by omega
   have hw:=set_bytes (l:=m) (i:=k) (m:=(c.toNat:Int)+1) (by omega)
   have hw0:(c.toNat:Int)+1=((c+1).toNat:Int):=by rw [succ_nat h57];omega
   rw [hw0,bytes_set,hS] at hw
   obtain ⟨m2,hm2⟩:∃ m2,s.take k++(c+1)::(incC (s.drop (k+1))).1=m2:=⟨_,rfl⟩
   have hm2l:m2.length=s.length:=by rw [<-hm2];simp [hSl];omega
   have htk:=bytes_all hm2l
   have hle2:s.length<=m2.length:=by omega
   have hres:incP s=m2:=by
    have hq:incC (s.drop k)=((c+1)::(incC (s.drop (k+1))).1,false):=by rw [hdk,incC,if_pos hk,if_pos h57]
    have:=incC_left (p:=s.take k) hq
    rw [List.take_append_drop] at this
    unfold incP
    rw [this,hm2]
    rfl
   rw [hm2] at hw
   rw [hres]
   simp (disch:=first|assumption|omega|(simp only [List.length_append,List.length_cons,List.length_nil];omega)) only [go_sem,reduceCtorEq,Nat.reduceEqDiff,Nat.reduceAdd,Nat.reduceSub,Nat.reduceMul,Nat.reduceLeDiff,Int.reduceLT,Int.reduceLE,Int.reduceEq,↓reduceIte,Int.reduceNeg,Int.reduceAdd,Int.reduceSub,Int.reduceMul,true_imp_iff,forall_const,Nat.mul_one,Int.reduceToNat,Nat.reducePow,Int.reducePow,Bool.true_and,Bool.false_and,Bool.and_false,hf,g0,hidx,hle,h57',hw0,hw,hle2,htk]
   exact retC_by (by repeat' (first|exact Drop.refl _|with_reducible refine Drop.off ?_ (by assumption))) (.refl _) ⟨rfl,rfl⟩
  ·have h57':¬ (c.toNat:Int)<57:=by omega
   have hw:=set_bytes (l:=m) (i:=k) (m:=48) (by omega)
   have hw0:(48:Int)=((48:UInt8).toNat:Int):=rfl
   have hq:incC (s.drop k)=(48::(incC (s.drop (k+1))).1,true):=by rw [hdk,incC,if_pos hk,if_neg h57]
   have hw2:(bytesAV m).set k (.int .u8 48)=bytesAV (s.take k++(incC (s.drop k)).1):=by
    rw [hw0,bytes_set,hS,hq]
   rw [hw2] at hw
   simp (disch:=first|assumption|omega|(simp only [List.length_append,List.length_cons,List.length_nil];omega)) only [go_sem,reduceCtorEq,Nat.reduceEqDiff,Nat.reduceAdd,Nat.reduceSub,Nat.reduceMul,Nat.reduceLeDiff,Int.reduceLT,Int.reduceLE,Int.reduceEq,↓reduceIte,Int.reduceNeg,Int.reduceAdd,Int.reduceSub,Int.reduceMul,true_imp_iff,forall_const,Nat.mul_one,Int.reduceToNat,Nat.reducePow,Int.reducePow,Bool.true_and,Bool.false_and,Bool.and_false,hf,g0,hidx,hle,h57',hw]
   exact ⟨k,by omega,by omega,by rw [hq],rfl,rfl⟩
end Go.A
namespace Go.A
open Go.Proofs
def padP (s:List UInt8) (n:Nat):List UInt8:=List.replicate (n+1-s.length) 48++s
def cutD (s:List UInt8) (n:Nat):List UInt8:=
 if n=0 then padP s n else if 53<=(((padP s n)[(padP s n).length-n]?).getD 0).toNat then incP ((padP s n).take ((padP s n).length-n)) else (padP s n).take ((padP s n).length-n)
theorem padP_more {s:List UInt8} {n:Nat} (h:s.length<=n):padP (48::s) n=padP s n:=by
 unfold padP
 rw [List.length_cons,show n+1-s.length=(n+1-(s.length+1))+1 by omega,List.replicate_succ',List.append_assoc]
 rfl
theorem padP_done {s:List UInt8} {n:Nat} (h:n<s.length):padP s n=s:=by
 unfold padP
 rw [show n+1-s.length=0 by omega]
 rfl
theorem rcut_ok (s:List UInt8) (n:Nat) (hs:s.length<=1000) (hn:n<=1000):Pure Tryz.prog 80 [.str s,.int .i64 n] (.str (cutD s n)):=by
 intro σ
 refine a80 (by simp) ?_
 simp (disch:=first|assumption|omega|(simp only [List.length_append,List.length_cons,List.length_nil];omega)) only [go_sem,reduceCtorEq,Nat.reduceEqDiff,Nat.reduceAdd,Nat.reduceSub,Nat.reduceMul,Nat.reduceLeDiff,Int.reduceLT,Int.reduceLE,Int.reduceEq,↓reduceIte,Int.reduceNeg,Int.reduceAdd,Int.reduceSub,Int.reduceMul,true_imp_iff,forall_const,Nat.mul_one,Int.reduceToNat,Nat.reducePow,Int.reducePow,Bool.true_and,Bool.false_and,Bool.and_false]
 refine wp_loop_on (fun (l:List UInt8) a s2=>padP l n=padP s n/\l.length<=2000/\(a 0 = .str l/\a 1 = .int .i64 n)/\s2=σ) (fun l=>2000-l.length) s ⟨rfl,by omega,?_,rfl⟩ ?_
 ·simp (disch:=first|assumption|omega|(simp only [List.length_append,List.length_cons,List.length_nil];omega)) only [go_sem,reduceCtorEq,Nat.reduceEqDiff,Nat.reduceAdd,Nat.reduceSub,Nat.reduceMul,Nat.reduceLeDiff,Int.reduceLT,Int.reduceLE,Int.reduceEq,↓reduceIte,Int.reduceNeg,Int.reduceAdd,Int.reduceSub,Int.reduceMul,true_imp_iff,forall_const,Nat.mul_one,Int.reduceToNat,Nat.reducePow,Int.reducePow,Bool.true_and,Bool.false_and,Bool.and_false]
 rintro l a s2 ⟨hp,hl,hf,rfl⟩
 by_cases hle:l.length<=n
 ·have hle':(l.length:Int)<=n:=by omega
  have e1:binS .add [48] l=some (.str (48::l)):=binS_add (by simp;omega)
  simp (disch:=first|assumption|omega|(simp only [List.length_append,List.length_cons,List.length_nil];omega)) only [go_sem,reduceCtorEq,Nat.reduceEqDiff,Nat.reduceAdd,Nat.reduceSub,Nat.reduceMul,Nat.reduceLeDiff,Int.reduceLT,Int.reduceLE,Int.reduceEq,↓reduceIte,Int.reduceNeg,Int.reduceAdd,Int.reduceSub,Int.reduceMul,true_imp_iff,forall_const,Nat.mul_one,Int.reduceToNat,Nat.reducePow,Int.reducePow,Bool.true_and,Bool.false_and,Bool.and_false,hf,hle',e1]
  exact ⟨48::l,by simp;omega,by rw [padP_more hle,hp],by simp;omega,rfl⟩
 ·have hle':¬ (l.length:Int)<=n:=by omega
  rw [padP_done (by omega)] at hp
  have hres:cutD s n=if n=0 then l else if 53<=((l[l.length-n]?).getD 0).toNat then incP (l.take (l.length-n)) else l.take (l.length-n):=by
   unfold cutD
   rw [<-hp]
  rw [hres]
  by_cases h0:n=0
  ·subst h0
   rw [if_pos rfl]
   have h0':((0:Nat):Int)=0:=rfl
   simp (disch:=first|assumption|omega|(simp only [List.length_append,List.length_cons,List.length_nil];omega)) only [go_sem,reduceCtorEq,Nat.reduceEqDiff,Nat.reduceAdd,Nat.reduceSub,Nat.reduceMul,Nat.reduceLeDiff,Int.reduceLT,Int.reduceLE,Int.reduceEq,↓reduceIte,Int.reduceNeg,Int.reduceAdd,Int.reduceSub,Int.reduceMul,true_imp_iff,forall_const,Nat.mul_one,Int.reduceToNat,Nat.reducePow,Int.reducePow,Bool.true_and,Bool.false_and,Bool.and_false,hf,hle',h0']
   exact retC_by (by repeat' (first|exact Drop.refl _|with_reducible refine Drop.off ?_ (by assumption))) (.refl _) ⟨rfl,rfl⟩
  ·have h0':¬ (n:Int)=0:=by omega
   rw [if_neg h0]
   obtain ⟨k,hk⟩:∃ k,l.length-n=k:=⟨_,rfl⟩
   rw [hk]
   have hkl:k<l.length:=by omega
   have e2:(l.length:Int)-n=k:=by omega
   obtain ⟨c, hc⟩ : ∃ c, l[k]'hkl = c := ⟨_, rfl⟩
   have hidx:l[k]? = some c:=by rw [List.getElem?_eq_getElem hkl,hc]
   rw [hidx,Option.getD_some]
   have hkl':(k:Int)<l.length:=by omega
   have hkl2:(k:Int)<=l.length:=by omega
   by_cases h53:53<=c.toNat
   ·have h53':(53:Int)<=c.toNat:=by omega
    rw [if_pos h53]
    have hI:=inc_ok (l.take k) (by simp;omega)
    simp (disch:=first|assumption|omega|(simp only [List.length_append,List.length_cons,List.length_nil];omega)) only [go_sem,reduceCtorEq,Nat.reduceEqDiff,Nat.reduceAdd,Nat.reduceSub,Nat.reduceMul,Nat.reduceLeDiff,Int.reduceLT,Int.reduceLE,Int.reduceEq,↓reduceIte,Int.reduceNeg,Int.reduceAdd,Int.reduceSub,Int.reduceMul,true_imp_iff,forall_const,Nat.mul_one,Int.reduceToNat,Nat.reducePow,Int.reducePow,Bool.true_and,Bool.false_and,Bool.and_false,hf,hle',h0',e2,hidx,hkl',hkl2,h53']
    refine hI.use ?_
    simp (disch:=first|assumption|omega|(simp only [List.length_append,List.length_cons,List.length_nil];omega)) only [go_sem,reduceCtorEq,Nat.reduceEqDiff,Nat.reduceAdd,Nat.reduceSub,Nat.reduceMul,Nat.reduceLeDiff,Int.reduceLT,Int.reduceLE,Int.reduceEq,↓reduceIte,Int.reduceNeg,Int.reduceAdd,Int.reduceSub,Int.reduceMul,true_imp_iff,forall_const,Nat.mul_one,Int.reduceToNat,Nat.reducePow,Int.reducePow,Bool.true_and,Bool.false_and,Bool.and_false]
    exact retC_by (by repeat' (first|exact Drop.refl _|with_reducible refine Drop.off ?_ (by assumption))) (.refl _) ⟨rfl,rfl⟩
   ·have h53':¬ (53:Int)<=c.toNat:=by omega
    rw [if_neg h53]
    simp (disch:=first|assumption|omega|(simp only [List.length_append,List.length_cons,List.length_nil];omega)) only [go_sem,reduceCtorEq,Nat.reduceEqDiff,Nat.reduceAdd,Nat.reduceSub,Nat.reduceMul,Nat.reduceLeDiff,Int.reduceLT,Int.reduceLE,Int.reduceEq,↓reduceIte,Int.reduceNeg,Int.reduceAdd,Int.reduceSub,Int.reduceMul,true_imp_iff,forall_const,Nat.mul_one,Int.reduceToNat,Nat.reducePow,Int.reducePow,Bool.true_and,Bool.false_and,Bool.and_false,hf,hle',h0',e2,hidx,hkl',hkl2,h53']
    exact retC_by (by repeat' (first|exact Drop.refl _|with_reducible refine Drop.off ?_ (by assumption))) (.refl _) ⟨rfl,rfl⟩
end Go.A
namespace Go.A
open Go.Proofs
theorem nv_pad (s:List UInt8) (n:Nat):nv (padP s n)=nv s:=by
 unfold padP
 rw [nv_app,nv_zeros]
 omega
theorem allD_pad {s:List UInt8} (h:AllD s) (n:Nat):AllD (padP s n):=by
 intro c hc
 rcases List.mem_append.1 hc with hc|hc
 ·obtain ⟨_,rfl⟩:=List.mem_replicate.1 hc
  decide
 ·exact h c hc
theorem pad_len (s:List UInt8) (n:Nat):n<(padP s n).length:=by
 unfold padP
 simp
 omega
theorem cut_law {s:List UInt8} (h:AllD s) {n:Nat} (hn:0<n):AllD (cutD s n)/\nv (cutD s n)*10 ^ n=rndN (nv s) (10 ^ n):=by
 obtain ⟨t,ht⟩:∃ t,padP s n=t:=⟨_,rfl⟩
 have h1:nv t=nv s:=by rw [<-ht,nv_pad]
 have h2:AllD t:=ht▸allD_pad h n
 have h3:n<t.length:=ht▸pad_len s n
 unfold cutD
 rw [ht,if_neg (by omega)]
 have hk:t.length-n<t.length:=by omega
 have hA:AllD (t.take (t.length-n)):=fun c hc=>h2 c (List.mem_of_mem_take hc)
 obtain ⟨c, hc⟩ : ∃ c, t[t.length - n]'hk = c := ⟨_, rfl⟩
 have hdr:t.drop (t.length-n)=c::t.drop (t.length-n+1):=by rw [List.drop_eq_getElem_cons hk,hc]
 have hB:AllD (t.drop (t.length-n+1)):=fun d hd=>h2 d (List.mem_of_mem_drop hd)
 have hcd:=h2 c (hc▸List.getElem_mem hk)
 have hBl:(t.drop (t.length-n+1)).length=n-1:=by rw [List.length_drop];omega
 have hb:=nv_lt hB
 rw [hBl] at hb
 have hval:nv t=nv (t.take (t.length-n))*10 ^ n+((c.toNat-48)*10 ^ (n-1)+nv (t.drop (t.length-n+1))):=by
  have:=nv_app (t.take (t.length-n)) (t.drop (t.length-n))
  rw [List.take_append_drop,List.length_drop,hdr,nv,hBl,show t.length-(t.length-n)=n by omega] at this
  exact this
 have e10:10 ^ n=10*10 ^ (n-1):=by
  rw [<-Nat.pow_succ']
  congr 1
  omega
 rw [List.getElem?_eq_getElem hk,hc,Option.getD_some,← h1]
 obtain ⟨i1,i2⟩:=incP_law hA
 obtain ⟨A,hAe⟩:∃ A,nv (t.take (t.length-n))=A:=⟨_,rfl⟩
 rw [hAe] at hval i2
 generalize nv (t.drop (t.length-n+1))=b at *
 obtain ⟨d,hd⟩:∃ d,c.toNat-48=d:=⟨_,rfl⟩
 rw [hd] at hval
 generalize hw:10 ^ (n-1)=w at *
 have hr:nv t % 10 ^ n=d*w+b:=by
  rw [hval,e10,Nat.mul_add_mod_of_lt]
  have:d*w<=9*w:=Nat.mul_le_mul_right _ (by omega)
  omega
 unfold rndN
 rw [hr]
 have hu:nv t-(d*w+b)=A*10 ^ n:=by rw [hval];omega
 rw [hu,e10]
 by_cases h5:53<=c.toNat
 ·rw [if_pos h5,if_pos]
  ·exact ⟨i1,by rw [i2,Nat.add_mul];omega⟩
  ·have:5*w<=d*w:=Nat.mul_le_mul_right _ (by omega)
   omega
 ·rw [if_neg h5,if_neg]
  ·exact ⟨hA,by rw [hAe]⟩
  ·have:d*w<=4*w:=Nat.mul_le_mul_right _ (by omega)
   omega
end Go.A
namespace Go.A
def vl:List Nat->Nat
 | []=>0
 | d::l=>d*10 ^ l.length+vl l
theorem vl_zeros (n:Nat):vl (List.replicate n 0)=0:=by
 induction n with
 | zero=>rfl
 | succ n ih=>rw [List.replicate_succ,vl,ih];simp
theorem vl_set:∀ (o:List Nat) (j v x:Nat),o[j]? = some x->vl (o.set j v)+x*10 ^ (o.length-1-j)=vl o+v*10 ^ (o.length-1-j)
 | [],j,v,x,h=>by simp at h
 | d::l,0,v,x,h=>by
   simp only [List.getElem?_cons_zero,Option.some.injEq] at h
   subst h
   rw [List.set_cons_zero,vl,vl,List.length_cons,show l.length+1-1-0=l.length by omega]
   omega
 | d::l,j+1,v,x,h=>by
   rw [List.getElem?_cons_succ] at h
   have hj:=(List.getElem?_eq_some_iff.1 h).1
   have ih:=vl_set l j v x h
   rw [List.set_cons_succ,vl,vl,List.length_cons,List.length_set,show l.length+1-1-(j+1)=l.length-1-j by omega]
   omega
theorem vl_add {o:List Nat} {j x:Nat} (d:Nat) (h:o[j]? = some x):vl (o.set j (x+d))=vl o+d*10 ^ (o.length-1-j):=by
 have:=vl_set o j (x+d) x h
 rw [Nat.add_mul] at this
 omega
theorem vl_carry {o:List Nat} {j x y:Nat} (hj:o[j]? = some y) (hx:o[j+1]? = some x):vl ((o.set j (y+x / 10)).set (j+1) (x % 10))=vl o:=by
 have hl:=(List.getElem?_eq_some_iff.1 hx).1
 have h1:=vl_add (x / 10) hj
 have h2:=vl_set (o.set j (y+x / 10)) (j+1) (x % 10) x (by rw [List.getElem?_set_ne (by omega)];exact hx)
 rw [List.length_set,h1] at h2
 have he:o.length-1-j=(o.length-1-(j+1))+1:=by omega
 rw [he,Nat.pow_succ] at h2
 generalize 10 ^ (o.length-1-(j+1))=w at *
 have h3:x*w=x / 10*(w*10)+x % 10*w:=by
  have:x=x / 10*10+x % 10:=by omega
  calc x*w=(x / 10*10+x % 10)*w:=by rw [<-this]
   _=x / 10*(w*10)+x % 10*w:=by rw [Nat.add_mul,Nat.mul_assoc,Nat.mul_comm 10 w]
 omega
theorem nv_vl:∀ o:List Nat,(∀ d∈o,d<10)->nv (o.map fun d=>UInt8.ofNat (48+d))=vl o/\AllD (o.map fun d=>UInt8.ofNat (48+d))
 | [],_=>⟨rfl,fun c h=>by cases h⟩
 | d::l,h=>by
   obtain ⟨h1,h2⟩:=nv_vl l fun e he=>h e (List.mem_cons_of_mem _ he)
   have hd:=h d List.mem_cons_self
   have hb:(UInt8.ofNat (48+d)).toNat=48+d:=by rw [UInt8.toNat_ofNat'];omega
   refine ⟨?_,fun c hc=>?_⟩
   ·rw [List.map_cons,nv,vl,h1,hb,List.length_map]
    rw [show 48+d-48=d by omega]
   ·rw [List.map_cons] at hc
    rcases List.mem_cons.1 hc with rfl|hc
    ·rw [hb];omega
    ·exact h2 c hc
theorem vl_head {d:Nat} {l:List Nat} (h:vl (d::l)<10 ^ (l.length+1)):d<10:=by
 rw [vl,Nat.pow_succ] at h
 have hp:0<10 ^ l.length:=Nat.pow_pos (by decide)
 generalize 10 ^ l.length=w at *
 have h2:d*w<10*w:=by omega
 exact Nat.lt_of_mul_lt_mul_right h2
theorem nv_drop {x:List UInt8} {i:Nat} {c:UInt8} (h:x[i]? = some c):nv (x.drop i)=(c.toNat-48)*10 ^ (x.length-1-i)+nv (x.drop (i+1)):=by
 obtain ⟨hi,rfl⟩:=List.getElem?_eq_some_iff.1 h
 rw [List.drop_eq_getElem_cons hi,nv,List.length_drop]
 congr 3
 omega
theorem times_step {x y:List UInt8} {o:List Nat} {i k a:Nat} {c d:UInt8} (hx:x[i]? = some c) (hy:y[k]? = some d) (ho:o.length=x.length+y.length) (hoa:o[i+k+1]? = some a)
  (hv:vl o=nv (x.drop (i+1))*nv y+(c.toNat-48)*10 ^ (x.length-1-i)*nv (y.drop (k+1))) :
  vl (o.set (i+k+1) (a+(c.toNat-48)*(d.toNat-48)))=nv (x.drop (i+1))*nv y+(c.toNat-48)*10 ^ (x.length-1-i)*nv (y.drop k):=by
 have hi:=(List.getElem?_eq_some_iff.1 hx).1
 have hk:=(List.getElem?_eq_some_iff.1 hy).1
 rw [vl_add _ hoa,hv,nv_drop hy,show o.length-1-(i+k+1)=(x.length-1-i)+(y.length-1-k) by omega,Nat.pow_add,Nat.mul_add]
 have h3:(c.toNat-48)*(d.toNat-48)*(10 ^ (x.length-1-i)*10 ^ (y.length-1-k))=(c.toNat-48)*10 ^ (x.length-1-i)*((d.toNat-48)*10 ^ (y.length-1-k)):=by
  simp only [Nat.mul_assoc,Nat.mul_comm,Nat.mul_left_comm]
 rw [h3]
 omega
theorem times_row {x y:List UInt8} {i:Nat} {c:UInt8} (hx:x[i]? = some c):nv (x.drop (i+1))*nv y+(c.toNat-48)*10 ^ (x.length-1-i)*nv (y.drop 0)=nv (x.drop i)*nv y:=by
 rw [nv_drop hx,List.drop_zero,Nat.add_mul]
 omega
theorem div_step {v c d:Nat} (hd:0<d):(v*10+c) / d=v / d*10+(v % d*10+c) / d/\(v*10+c) % d=(v % d*10+c) % d:=by
 have h:v*10+c=(v % d*10+c)+d*(v / d*10):=by
  have h1:=Nat.div_add_mod v d
  have h2:d*(v / d*10)=d*(v / d)*10:=by rw [Nat.mul_assoc]
  omega
 constructor
 ·rw [h,Nat.add_mul_div_left _ _ hd];omega
 ·rw [h,Nat.add_mul_mod_self_left]
theorem div_digit {v c d:Nat} (hd:0<d) (hc:c<=9):(v % d*10+c) / d<=9:=by
 have h:=Nat.mod_lt v hd
 have:(v % d*10+c) / d<10:=Nat.div_lt_of_lt_mul (by omega)
 omega
theorem nv_snoc (l:List UInt8) (c:UInt8):nv (l ++ [c])=nv l*10+(c.toNat-48):=by
 rw [nv_app]
 simp [nv]
theorem half_up {v d:Nat} (hd:0<d):(if d-v % d<=v % d then v / d+1 else v / d)=(2*v+d) / (2*d):=by
 have h1:=Nat.div_add_mod v d
 have h2:=Nat.mod_lt v hd
 generalize v / d=q at *
 generalize v % d=r at *
 have h3:2*v+d=(2*r+d)+2*d*q:=by
  have:2*d*q=2*(d*q):=by rw [Nat.mul_assoc]
  omega
 rw [h3,Nat.add_mul_div_left _ _ (by omega)]
 by_cases h:d-r<=r
 ·rw [if_pos h]
  have:(2*r+d) / (2*d)=1:=by rw [Nat.div_eq_iff (by omega)];omega
  omega
 ·rw [if_neg h,Nat.div_eq_of_lt (by omega)]
  omega
theorem root_one {n r q:Nat} (h1:r*r<=n) (h2:n<(r+1)*(r+1)) (h3:q*q<=n) (h4:n<(q+1)*(q+1)):r=q:=by
 rcases Nat.lt_trichotomy r q with h|h|h
 ·have:=Nat.mul_le_mul (show r+1<=q by omega) (show r+1<=q by omega);omega
 ·exact h
 ·have:=Nat.mul_le_mul (show q+1<=r by omega) (show q+1<=r by omega);omega
end Go.A
namespace Go.A
open Go.Proofs
theorem kn_le {b yn1 yn0 u un1 q r:Nat} (hu:u=q*yn1+r) (h:q*yn0<=b*r+un1):q*(yn1*b+yn0)<=u*b+un1:=by
 have e1:q*(yn1*b+yn0)=q*yn1*b+q*yn0:=by rw [Nat.mul_add,Nat.mul_assoc]
 have e2:u*b=q*yn1*b+b*r:=by rw [hu,Nat.add_mul,Nat.mul_comm r b]
 omega
theorem kn_gt {b yn1 yn0 u un1 q r:Nat} (hu:u=q*yn1+r) (h:b*r+un1<q*yn0):u*b+un1<q*(yn1*b+yn0):=by
 have e1:q*(yn1*b+yn0)=q*yn1*b+q*yn0:=by rw [Nat.mul_add,Nat.mul_assoc]
 have e2:u*b=q*yn1*b+b*r:=by rw [hu,Nat.add_mul,Nat.mul_comm r b]
 omega
theorem kn_below {b y u un1:Nat} (hu:u<y) (h1:un1<b):(u*b+un1) / y<b:=by
 refine Nat.div_lt_of_lt_mul ?_
 have:=Nat.mul_le_mul_right b hu
 rw [Nat.succ_mul] at this
 omega
theorem kn_start {b yn1 yn0 u un1:Nat} (hb:b<=2*yn1) (h0:yn0<b) (hp:0<yn1) (hu:u<yn1*b+yn0) (h1:un1<b) :
  u=u / yn1*yn1+u % yn1/\(u*b+un1) / (yn1*b+yn0)<=u / yn1/\u / yn1<=b+1:=by
 have e:u=u / yn1*yn1+u % yn1:=by rw [Nat.mul_comm];exact (Nat.div_add_mod _ _).symm
 have hm:=Nat.mod_lt u hp
 refine ⟨e,?_,?_⟩
 ·refine Nat.le_of_lt_succ (Nat.div_lt_of_lt_mul ?_)
  have h3:(u+1)*b<=(u / yn1+1)*yn1*b:=Nat.mul_le_mul_right _ (by rw [Nat.add_mul];omega)
  have h4:(u / yn1+1)*(yn1*b)<=(u / yn1+1)*(yn1*b+yn0):=Nat.mul_le_mul_left _ (by omega)
  rw [<-Nat.mul_assoc] at h4
  show u*b+un1<(yn1*b+yn0)*(u / yn1+1)
  rw [Nat.mul_comm (yn1*b+yn0)]
  rw [Nat.add_mul u 1 b] at h3
  omega
 ·refine Nat.le_of_lt_succ (Nat.div_lt_of_lt_mul ?_)
  have:yn1*(b+1).succ=yn1*b+2*yn1:=by rw [Nat.succ_eq_add_one,show b+1+1=b+2 by omega,Nat.mul_add,Nat.mul_comm yn1 2]
  rw [this]
  omega
theorem kn_dec {b yn1 yn0 u un1 q r:Nat} (hu:u=q*yn1+r) (hlt:u<yn1*b+yn0) (h1:un1<b) (h:b<=q\/b*r+un1<q*yn0) :
  (u*b+un1) / (yn1*b+yn0)<q/\u=(q-1)*yn1+(r+yn1):=by
 have hQ:(u*b+un1) / (yn1*b+yn0)<q:=by
  rcases h with h|h
  ·exact Nat.lt_of_lt_of_le (kn_below hlt h1) h
  ·refine Nat.div_lt_of_lt_mul ?_
   rw [Nat.mul_comm (yn1*b+yn0) q]
   exact kn_gt hu h
 refine ⟨hQ,?_⟩
 have hq0:0<q:=Nat.lt_of_le_of_lt (Nat.zero_le _) hQ
 obtain ⟨k,rfl⟩:∃ k,q=k+1:=⟨q-1,by omega⟩
 rw [Nat.add_sub_cancel]
 rw [Nat.add_mul] at hu
 omega
theorem kn_fin {b yn1 yn0 u un1 q r:Nat} (hp:0<yn1*b+yn0) (hu:u=q*yn1+r) (h:q*yn0<=b*r+un1) (hQ:(u*b+un1) / (yn1*b+yn0)<=q):q=(u*b+un1) / (yn1*b+yn0):=
 Nat.le_antisymm ((Nat.le_div_iff_mul_le hp).2 (kn_le hu h)) hQ
theorem kn_two {b y u un1 un0:Nat} (hy:0<y) :
  (u*(b*b)+un1*b+un0) / y=(u*b+un1) / y*b+((u*b+un1) % y*b+un0) / y/\(u*(b*b)+un1*b+un0) % y=((u*b+un1) % y*b+un0) % y:=by
 have e1:=Nat.div_add_mod (u*b+un1) y
 have e2:=Nat.div_add_mod ((u*b+un1) % y*b+un0) y
 have hl:=Nat.mod_lt ((u*b+un1) % y*b+un0) hy
 generalize (u*b+un1) / y=q1 at *
 generalize (u*b+un1) % y=r1 at *
 generalize (r1*b+un0) / y=q0 at *
 generalize (r1*b+un0) % y=r0 at *
 refine (Nat.div_mod_unique hy).2 ⟨?_,hl⟩
 have e3:u*(b*b)+un1*b=y*q1*b+r1*b:=by rw [<-Nat.add_mul,e1,Nat.add_mul,Nat.mul_assoc]
 have e4:y*(q1*b+q0)=y*q1*b+y*q0:=by rw [Nat.mul_add,Nat.mul_assoc]
 omega
theorem shl_nat {x s:Nat} (hs:s<=63):shI .shl .u64 (x:Int) (s:Int)=some (.int .u64 ((x*2 ^ s % 18446744073709551616:Nat):Int)):=by
 rw [shI_shl (by omega),Int.toNat_natCast,show IntKind.u64.bits=64 from rfl,mnb_le (by omega),IntKind.wrap_u64]
 congr 2
theorem shr_nat64 {x s:Nat} (hs:s<=64) {z:Int} (hz:z=s):shI .shr .u64 (x:Int) z=some (.int .u64 ((x / 2 ^ s:Nat):Int)):=by
 subst hz
 rw [shI_shr (by omega),Int.toNat_natCast,show IntKind.u64.bits=64 from rfl,mnb_le (by omega)]
 congr 2
theorem mask_nat {x:Nat} (hx:x<18446744073709551616):binI .and .u64 (x:Int) 4294967295=some (.int .u64 ((x % 4294967296:Nat):Int)):=by
 have e:(BitVec.ofInt 64 (x:Int) &&& BitVec.ofInt 64 4294967295).toNat=x % 4294967296:=by
  rw [BitVec.toNat_and,BitVec.ofInt_natCast,BitVec.toNat_ofNat,Nat.mod_eq_of_lt hx,show (BitVec.ofInt 64 4294967295).toNat=2 ^ 32-1 by decide,Nat.and_two_pow_sub_one_eq_mod]
 show some (AV.int .u64 (IntKind.u64.wrap ((BitVec.ofInt 64 (x:Int) &&& BitVec.ofInt 64 4294967295).toNat:Int)))=_
 rw [e,IntKind.wrap_u64]
 congr 2
 omega
theorem or64_nat {x y:Nat} (hx:x<18446744073709551616) (hy:y<18446744073709551616):binI .or .u64 (x:Int) (y:Int)=some (.int .u64 ((x ||| y:Nat):Int)):=by
 have h:x ||| y<2 ^ 64:=Nat.or_lt_two_pow (n:=64) hx hy
 have e:(BitVec.ofInt 64 (x:Int) ||| BitVec.ofInt 64 (y:Int)).toNat=x ||| y:=by
  rw [BitVec.toNat_or,BitVec.ofInt_natCast,BitVec.ofInt_natCast,BitVec.toNat_ofNat,BitVec.toNat_ofNat,Nat.mod_eq_of_lt hx,Nat.mod_eq_of_lt hy]
 show some (AV.int .u64 (IntKind.u64.wrap ((BitVec.ofInt 64 (x:Int) ||| BitVec.ofInt 64 (y:Int)).toNat:Int)))=_
 rw [e,IntKind.wrap_u64]
 congr 2
 omega
theorem len64_ok (y:Nat) (h:y<18446744073709551616):Pure Tryz.prog 115 [.int .u64 y] (.int .i64 (Lib.bitLen y:Nat)):=by
 intro σ
 refine ACalls.of_ext (u := .int .i64 (Lib.bitLen y:Nat)) (fun w vs hs ha=>?_) fun w => .int _ _
 cases ha with
 | cons h1 h2=>
 cases h1;cases h2
 have:=Tryz.bits_Len64 (y:Int) w (by omega) (by omega)
 rw [Int.toNat_natCast] at this
 exact this.mono fun e w' ⟨he,hw⟩=>⟨he,Ext.of_eq hw⟩
theorem leadz_ok {y s:Nat} (h:y<18446744073709551616) (hs:Lib.bitLen y+s=64):Pure Tryz.prog 109 [.int .u64 y] (.int .i64 (s:Nat)):=by
 intro σ
 have hL:=len64_ok y h
 have e:(64:Int)-(Lib.bitLen y:Nat)=s:=by omega
 have hle:Lib.bitLen y<=64:=by omega
 refine a109 (by simp) ?_
 simp (disch:=first|assumption|omega|(simp only [List.length_append,List.length_cons,List.length_nil];omega)) only [go_sem,reduceCtorEq,Nat.reduceEqDiff,Nat.reduceAdd,Nat.reduceSub,Nat.reduceMul,Nat.reduceLeDiff,Int.reduceLT,Int.reduceLE,Int.reduceEq,↓reduceIte,Int.reduceNeg,Int.reduceAdd,Int.reduceSub,Int.reduceMul,true_imp_iff,forall_const,Nat.mul_one,Int.reduceToNat,Nat.reducePow,Int.reducePow,Bool.true_and,Bool.false_and,Bool.and_false]
 refine hL.use ?_
 generalize Lib.bitLen y=L at *
 simp (disch:=first|assumption|omega|(simp only [List.length_append,List.length_cons,List.length_nil];omega)) only [go_sem,reduceCtorEq,Nat.reduceEqDiff,Nat.reduceAdd,Nat.reduceSub,Nat.reduceMul,Nat.reduceLeDiff,Int.reduceLT,Int.reduceLE,Int.reduceEq,↓reduceIte,Int.reduceNeg,Int.reduceAdd,Int.reduceSub,Int.reduceMul,true_imp_iff,forall_const,Nat.mul_one,Int.reduceToNat,Nat.reducePow,Int.reducePow,Bool.true_and,Bool.false_and,Bool.and_false,e]
 exact retC_by (by repeat' (first|exact Drop.refl _|with_reducible refine Drop.off ?_ (by assumption))) (.refl _) ⟨rfl,rfl⟩
theorem norm_shift {y:Nat} (h0:0<y) (h:y<18446744073709551616):∃ s,s<=63/\Lib.bitLen y+s=64/\9223372036854775808<=y*2 ^ s/\y*2 ^ s<18446744073709551616:=by
 obtain ⟨a,b,c⟩:=Lib.bitLenAux_bounds 64 y h (by omega)
 have hle:Lib.bitLen y<=64:=Lib.bitLen_le y 64 (Nat.le_refl _) h
 have e:Lib.bitLen y=Lib.bitLenAux 64 y:=rfl
 rw [<-e] at a b c
 generalize Lib.bitLen y=L at *
 refine ⟨64-L,by omega,by omega,?_,?_⟩
 ·have:=Nat.mul_le_mul_right (2 ^ (64-L)) b
  rw [<-Nat.pow_add,show L-1+(64-L)=63 by omega] at this
  exact this
 ·have:=Nat.mul_lt_mul_of_pos_right c (show 0<2 ^ (64-L) from Nat.pow_pos (by omega))
  rw [<-Nat.pow_add,show L+(64-L)=64 by omega] at this
  exact this
theorem div_second {σ:ASt} {s y1 y0 Y un0 Q1 R1 Q0 R0:Nat} (hy1:2147483648<=y1) (hy1b:y1<4294967296) (hy0:y0<4294967296) (hY:Y=y1*4294967296+y0) (hs:s<=63) (hu:R1<Y) (h1:un0<4294967296) (hQb:Q1<4294967296)
  (hQ0:(R1*4294967296+un0) / Y=Q0) (hR0:(R1*4294967296+un0) % Y=R0) (a:AFr) (hf:a 8 = .int .u64 s/\a 9 = .int .u64 y1/\a 10 = .int .u64 y0/\a 2 = .int .u64 Y/\a 15 = .int .u64 Q1/\a 14 = .int .u64 un0/\a 17 = .int .u64 R1) :
  ACode.wp Tryz.prog c98_59 (RetQ [.t 6,.t 7] fun v σ'=>v = .tuple [.int .u64 ((Q1*4294967296+Q0:Nat):Int),.int .u64 ((R0 / 2 ^ s:Nat):Int)]/\σ'=σ) a σ:=by
 rw [hY] at hu hQ0
 have kn:=kn_start (show 4294967296<=2*y1 by omega) hy0 (by omega) hu h1
 have hQ0b:=kn_below hu h1
 rw [hQ0] at hQ0b
 have hm:=Nat.mod_lt R1 (show 0<y1 by omega)
 have ediv:IntKind.u64.wrap ((R1:Int).tdiv y1)=((R1 / y1:Nat):Int):=by
  have:=Nat.div_le_self R1 y1
  rw [Int.tdiv_eq_ediv_of_nonneg (by omega),← Int.natCast_ediv,IntKind.wrap_u64]
  generalize R1 / y1=q at *
  omega
 obtain ⟨q0,hq0⟩:∃ q0,R1 / y1=q0:=⟨_,rfl⟩
 obtain ⟨r0,hr0⟩:∃ r0,R1 % y1=r0:=⟨_,rfl⟩
 rw [hq0] at ediv
 rw [hq0,hr0] at kn
 rw [hr0] at hm
 obtain ⟨M0,hM0⟩:∃ M,q0*y1=M:=⟨_,rfl⟩
 have eM0:(q0:Int)*(y1:Int)=M0:=by rw [<-hM0,Int.natCast_mul]
 have er:(R1:Int)-M0=r0:=by omega
 have gne:(y1:Int)≠0:=by omega
 obtain ⟨F,hF⟩:∃ F,F=ACode.wp Tryz.prog c98_56:=⟨_,rfl⟩
 have fin:∀ (a1:AFr),(a1 8 = .int .u64 s/\a1 2 = .int .u64 Y/\a1 15 = .int .u64 Q1/\a1 14 = .int .u64 un0/\a1 17 = .int .u64 R1/\a1 18 = .int .u64 Q0)->F (RetQ [.t 6,.t 7] fun v σ'=>v = .tuple [.int .u64 ((Q1*4294967296+Q0:Nat):Int),.int .u64 ((R0 / 2 ^ s:Nat):Int)]/\σ'=σ) a1 σ:=by
  intro a1 hf
  rw [hF]
  have e1:=Nat.div_add_mod (R1*4294967296+un0) Y
  rw [hR0,show (R1*4294967296+un0) / Y=Q0 by rw [hY];exact hQ0] at e1
  have hRl:R0<Y:=by rw [<-hR0];exact Nat.mod_lt _ (by omega)
  obtain ⟨P,hP⟩:∃ P,Y*Q0=P:=⟨_,rfl⟩
  have eP:(Q0:Int)*(Y:Int)=P:=by rw [<-Int.natCast_mul,Nat.mul_comm,hP]
  rw [hP] at e1
  have ew:IntKind.u64.wrap (IntKind.u64.wrap (IntKind.u64.wrap ((R1:Int)*4294967296)+un0)-IntKind.u64.wrap P)=R0:=by
   rw [IntKind.wrap_u64,IntKind.wrap_u64,IntKind.wrap_u64,IntKind.wrap_u64]
   omega
  have hsh:=shr_nat64 (x:=R0) (s:=s) (by omega) rfl
  have ee:(Q1:Int)*4294967296+Q0=((Q1*4294967296+Q0:Nat):Int):=by omega
  have hb:Q1*4294967296+Q0<18446744073709551616:=by omega
  have hR64:R0<18446744073709551616:=by omega
  obtain ⟨QQ,hQQ⟩:∃ QQ,Q1*4294967296+Q0=QQ:=⟨_,rfl⟩
  rw [hQQ] at ee hb ⊢
  simp (disch:=first|assumption|omega|(simp only [List.length_append,List.length_cons,List.length_nil];omega)) only [go_sem,reduceCtorEq,Nat.reduceEqDiff,Nat.reduceAdd,Nat.reduceSub,Nat.reduceMul,Nat.reduceLeDiff,Int.reduceLT,Int.reduceLE,Int.reduceEq,↓reduceIte,Int.reduceNeg,Int.reduceAdd,Int.reduceSub,Int.reduceMul,true_imp_iff,forall_const,Nat.mul_one,Int.reduceToNat,Nat.reducePow,Int.reducePow,Bool.true_and,Bool.false_and,Bool.and_false,hf,eP,ew,hsh,ee]
  exact retC_by (by repeat' (first|exact Drop.refl _|with_reducible refine Drop.off ?_ (by assumption))) (.refl _) ⟨rfl,rfl⟩
 simp (disch:=first|assumption|omega|(simp only [List.length_append,List.length_cons,List.length_nil];omega)) only [go_sem,reduceCtorEq,Nat.reduceEqDiff,Nat.reduceAdd,Nat.reduceSub,Nat.reduceMul,Nat.reduceLeDiff,Int.reduceLT,Int.reduceLE,Int.reduceEq,↓reduceIte,Int.reduceNeg,Int.reduceAdd,Int.reduceSub,Int.reduceMul,true_imp_iff,forall_const,Nat.mul_one,Int.reduceToNat,Nat.reducePow,Int.reducePow,Bool.true_and,Bool.false_and,Bool.and_false,hf,ediv,gne,eM0,er,←hF]
 refine wp_loop_on (fun (i:Nat×Nat) a1 s2=>(a1 8 = .int .u64 s/\a1 9 = .int .u64 y1/\a1 10 = .int .u64 y0/\a1 2 = .int .u64 Y/\a1 15 = .int .u64 Q1/\a1 14 = .int .u64 un0/\a1 17 = .int .u64 R1)/\(R1=i.1*y1+i.2/\(R1*4294967296+un0) / (y1*4294967296+y0)<=i.1/\i.1<=4294967297/\i.2<4294967296)/\(a1 18 = .int .u64 i.1/\a1 16 = .int .u64 i.2)/\s2=σ) (fun i=>i.1) (q0,r0) ⟨?_,⟨kn.1,kn.2.1,kn.2.2,by omega⟩,?_,rfl⟩ ?_
 ·simp (disch:=first|assumption|omega|(simp only [List.length_append,List.length_cons,List.length_nil];omega)) only [go_sem,reduceCtorEq,Nat.reduceEqDiff,Nat.reduceAdd,Nat.reduceSub,Nat.reduceMul,Nat.reduceLeDiff,Int.reduceLT,Int.reduceLE,Int.reduceEq,↓reduceIte,Int.reduceNeg,Int.reduceAdd,Int.reduceSub,Int.reduceMul,true_imp_iff,forall_const,Nat.mul_one,Int.reduceToNat,Nat.reducePow,Int.reducePow,Bool.true_and,Bool.false_and,Bool.and_false,hf]
 ·simp (disch:=first|assumption|omega|(simp only [List.length_append,List.length_cons,List.length_nil];omega)) only [go_sem,reduceCtorEq,Nat.reduceEqDiff,Nat.reduceAdd,Nat.reduceSub,Nat.reduceMul,Nat.reduceLeDiff,Int.reduceLT,Int.reduceLE,Int.reduceEq,↓reduceIte,Int.reduceNeg,Int.reduceAdd,Int.reduceSub,Int.reduceMul,true_imp_iff,forall_const,Nat.mul_one,Int.reduceToNat,Nat.reducePow,Int.reducePow,Bool.true_and,Bool.false_and,Bool.and_false,hf]
 rintro ⟨q,r⟩ a1 s2 ⟨hf,⟨i1,i2,i3,i4⟩,hg,rfl⟩
 dsimp only at i1 i2 i3 i4 hg
 obtain ⟨M,hM⟩:∃ M,q*y0=M:=⟨_,rfl⟩
 have eM:(q:Int)*(y0:Int)=M:=by rw [<-hM,Int.natCast_mul]
 by_cases hc:4294967296<=q\/4294967296*r+un0<q*y0
 ·obtain ⟨d1,d2⟩:=kn_dec i1 hu h1 hc
  have e1:(q:Int)-1=((q-1:Nat):Int):=by omega
  have e2:(r:Int)+y1=((r+y1:Nat):Int):=by omega
  by_cases hbr:4294967296<=r+y1
  ·have hbr':(4294967296:Int)<=r+y1:=by omega
   have hfin:=kn_fin (by omega) d2 (show (q-1)*y0<=4294967296*(r+y1)+un0 by
    have h1:(q-1)*y0<=4294967296*4294967296:=Nat.mul_le_mul (by omega) (by omega)
    omega) (by omega)
   have hq1:(q:Int)-1=Q0:=by rw [e1,hfin];exact congrArg _ hQ0
   by_cases hcq:4294967296<=q
   ·have hcq':(4294967296:Int)<=q:=by omega
    simp (disch:=first|assumption|omega|(simp only [List.length_append,List.length_cons,List.length_nil];omega)) only [go_sem,reduceCtorEq,Nat.reduceEqDiff,Nat.reduceAdd,Nat.reduceSub,Nat.reduceMul,Nat.reduceLeDiff,Int.reduceLT,Int.reduceLE,Int.reduceEq,↓reduceIte,Int.reduceNeg,Int.reduceAdd,Int.reduceSub,Int.reduceMul,true_imp_iff,forall_const,Nat.mul_one,Int.reduceToNat,Nat.reducePow,Int.reducePow,Bool.true_and,Bool.false_and,Bool.and_false,hf,hg,hcq',hbr',←hF]
    refine fin _ ?_
    simp (disch:=first|assumption|omega|(simp only [List.length_append,List.length_cons,List.length_nil];omega)) only [go_sem,reduceCtorEq,Nat.reduceEqDiff,Nat.reduceAdd,Nat.reduceSub,Nat.reduceMul,Nat.reduceLeDiff,Int.reduceLT,Int.reduceLE,Int.reduceEq,↓reduceIte,Int.reduceNeg,Int.reduceAdd,Int.reduceSub,Int.reduceMul,true_imp_iff,forall_const,Nat.mul_one,Int.reduceToNat,Nat.reducePow,Int.reducePow,Bool.true_and,Bool.false_and,Bool.and_false,hf,hg,hq1]
   ·have hcq':¬ (4294967296:Int)<=q:=by omega
    have hM2:M<18446744073709551616:=by
     have:=Nat.mul_le_mul (show q<=4294967295 by omega) (show y0<=4294967295 by omega)
     omega
    have hcm:4294967296*(r:Int)+un0<M:=by omega
    simp (disch:=first|assumption|omega|(simp only [List.length_append,List.length_cons,List.length_nil];omega)) only [go_sem,reduceCtorEq,Nat.reduceEqDiff,Nat.reduceAdd,Nat.reduceSub,Nat.reduceMul,Nat.reduceLeDiff,Int.reduceLT,Int.reduceLE,Int.reduceEq,↓reduceIte,Int.reduceNeg,Int.reduceAdd,Int.reduceSub,Int.reduceMul,true_imp_iff,forall_const,Nat.mul_one,Int.reduceToNat,Nat.reducePow,Int.reducePow,Bool.true_and,Bool.false_and,Bool.and_false,hf,hg,hcq',eM,hcm,hbr',←hF]
    refine fin _ ?_
    simp (disch:=first|assumption|omega|(simp only [List.length_append,List.length_cons,List.length_nil];omega)) only [go_sem,reduceCtorEq,Nat.reduceEqDiff,Nat.reduceAdd,Nat.reduceSub,Nat.reduceMul,Nat.reduceLeDiff,Int.reduceLT,Int.reduceLE,Int.reduceEq,↓reduceIte,Int.reduceNeg,Int.reduceAdd,Int.reduceSub,Int.reduceMul,true_imp_iff,forall_const,Nat.mul_one,Int.reduceToNat,Nat.reducePow,Int.reducePow,Bool.true_and,Bool.false_and,Bool.and_false,hf,hg,hq1]
  ·have hbr':¬ (4294967296:Int)<=r+y1:=by omega
   by_cases hcq:4294967296<=q
   ·have hcq':(4294967296:Int)<=q:=by omega
    simp (disch:=first|assumption|omega|(simp only [List.length_append,List.length_cons,List.length_nil];omega)) only [go_sem,reduceCtorEq,Nat.reduceEqDiff,Nat.reduceAdd,Nat.reduceSub,Nat.reduceMul,Nat.reduceLeDiff,Int.reduceLT,Int.reduceLE,Int.reduceEq,↓reduceIte,Int.reduceNeg,Int.reduceAdd,Int.reduceSub,Int.reduceMul,true_imp_iff,forall_const,Nat.mul_one,Int.reduceToNat,Nat.reducePow,Int.reducePow,Bool.true_and,Bool.false_and,Bool.and_false,hf,hg,hcq',hbr',e1]
    exact ⟨(q-1,r+y1),by dsimp only;omega,⟨d2,by dsimp only;omega,by dsimp only;omega,by dsimp only;omega⟩,⟨rfl,rfl⟩⟩
   ·have hcq':¬ (4294967296:Int)<=q:=by omega
    have hM2:M<18446744073709551616:=by
     have:=Nat.mul_le_mul (show q<=4294967295 by omega) (show y0<=4294967295 by omega)
     omega
    have hcm:4294967296*(r:Int)+un0<M:=by omega
    simp (disch:=first|assumption|omega|(simp only [List.length_append,List.length_cons,List.length_nil];omega)) only [go_sem,reduceCtorEq,Nat.reduceEqDiff,Nat.reduceAdd,Nat.reduceSub,Nat.reduceMul,Nat.reduceLeDiff,Int.reduceLT,Int.reduceLE,Int.reduceEq,↓reduceIte,Int.reduceNeg,Int.reduceAdd,Int.reduceSub,Int.reduceMul,true_imp_iff,forall_const,Nat.mul_one,Int.reduceToNat,Nat.reducePow,Int.reducePow,Bool.true_and,Bool.false_and,Bool.and_false,hf,hg,hcq',eM,hcm,hbr',e1]
    exact ⟨(q-1,r+y1),by dsimp only;omega,⟨d2,by dsimp only;omega,by dsimp only;omega,by dsimp only;omega⟩,⟨rfl,rfl⟩⟩
 ·have hc1:¬ 4294967296<=q:=fun h=>hc (.inl h)
  have hc2:¬ 4294967296*r+un0<q*y0:=fun h=>hc (.inr h)
  have hfin:=kn_fin (by omega) i1 (by omega) i2
  have hq1:(q:Int)=Q0:=by rw [hfin];exact congrArg _ hQ0
  have hcq':¬ (4294967296:Int)<=q:=by omega
  have hM2:M<18446744073709551616:=by
   have:=Nat.mul_le_mul (show q<=4294967295 by omega) (show y0<=4294967295 by omega)
   omega
  have hcm:¬ 4294967296*(r:Int)+un0<M:=by omega
  simp (disch:=first|assumption|omega|(simp only [List.length_append,List.length_cons,List.length_nil];omega)) only [go_sem,reduceCtorEq,Nat.reduceEqDiff,Nat.reduceAdd,Nat.reduceSub,Nat.reduceMul,Nat.reduceLeDiff,Int.reduceLT,Int.reduceLE,Int.reduceEq,↓reduceIte,Int.reduceNeg,Int.reduceAdd,Int.reduceSub,Int.reduceMul,true_imp_iff,forall_const,Nat.mul_one,Int.reduceToNat,Nat.reducePow,Int.reducePow,Bool.true_and,Bool.false_and,Bool.and_false,hf,hg,hcq',eM,hcm,←hF]
  refine fin _ ?_
  simp (disch:=first|assumption|omega|(simp only [List.length_append,List.length_cons,List.length_nil];omega)) only [go_sem,reduceCtorEq,Nat.reduceEqDiff,Nat.reduceAdd,Nat.reduceSub,Nat.reduceMul,Nat.reduceLeDiff,Int.reduceLT,Int.reduceLE,Int.reduceEq,↓reduceIte,Int.reduceNeg,Int.reduceAdd,Int.reduceSub,Int.reduceMul,true_imp_iff,forall_const,Nat.mul_one,Int.reduceToNat,Nat.reducePow,Int.reducePow,Bool.true_and,Bool.false_and,Bool.and_false,hf,hg,hq1]
set_option maxHeartbeats 1000000 in
theorem div128_ok {hi lo y:Nat} (hlo:lo<18446744073709551616) (hy:y<18446744073709551616) (hlt:hi<y) :
  Pure Tryz.prog 98 [.int .u64 hi,.int .u64 lo,.int .u64 y] (.tuple [.int .u64 (((hi*18446744073709551616+lo) / y:Nat):Int),.int .u64 (((hi*18446744073709551616+lo) % y:Nat):Int)]):=by
 by_cases h0:hi=0
 ·subst h0
  have:=div64_ok lo y hlo (by omega) hy
  rw [Nat.zero_mul,Nat.zero_add]
  exact this
 intro σ
 obtain ⟨s,hs,hL,hY1,hY2⟩:=norm_shift (show 0<y by omega) hy
 have hZ:=leadz_ok hy hL
 have h2:0<2 ^ s:=Nat.pow_pos (by omega)
 have hd:(hi*18446744073709551616+lo) / y=((hi*18446744073709551616+lo)*2 ^ s) / (y*2 ^ s):=(Nat.mul_div_mul_right _ _ h2).symm
 have hm:(hi*18446744073709551616+lo) % y=(((hi*18446744073709551616+lo)*2 ^ s) % (y*2 ^ s)) / 2 ^ s:=by rw [Nat.mul_mod_mul_right,Nat.mul_div_cancel _ h2]
 rw [hd,hm]
 have p64:2 ^ (64-s)*2 ^ s=18446744073709551616:=by rw [<-Nat.pow_add,show 64-s+s=64 by omega]
 have hhi:hi*2 ^ s<y*2 ^ s:=Nat.mul_lt_mul_of_pos_right hlt h2
 have elo:lo*2 ^ s / 18446744073709551616=lo / 2 ^ (64-s):=by rw [<-p64,Nat.mul_div_mul_right _ _ h2]
 have hup:lo / 2 ^ (64-s)<2 ^ s:=Nat.div_lt_of_lt_mul (by rw [p64];exact hlo)
 have hor:hi*2 ^ s ||| lo / 2 ^ (64-s)=hi*2 ^ s+lo / 2 ^ (64-s):=by
  have:=Nat.two_pow_add_eq_or_of_lt hup hi
  rw [Nat.mul_comm (2 ^ s) hi] at this
  exact this.symm
 have hul:hi*2 ^ s+lo / 2 ^ (64-s)<y*2 ^ s:=by
  have:=Nat.mul_le_mul_right (2 ^ s) hlt
  rw [Nat.succ_mul] at this
  omega
 have eN:(hi*18446744073709551616+lo)*2 ^ s=(hi*2 ^ s+lo / 2 ^ (64-s))*18446744073709551616+lo*2 ^ s % 18446744073709551616:=by
  rw [Nat.add_mul,Nat.add_mul,← elo,Nat.mul_right_comm]
  omega
 have s1:=shl_nat (x:=y) hs
 have s2:=shl_nat (x:=hi) hs
 have s3:=shl_nat (x:=lo) hs
 have s4:=shr_nat64 (x:=lo) (s:=64-s) (by omega) (show (64:Int)-s=((64-s:Nat):Int) by omega)
 rw [Nat.mod_eq_of_lt hY2] at s1
 rw [Nat.mod_eq_of_lt (show hi*2 ^ s<18446744073709551616 by omega)] at s2
 have s5:=or64_nat (x:=hi*2 ^ s) (y:=lo / 2 ^ (64-s)) (by omega) (by omega)
 rw [hor] at s5
 rw [eN]
 have hV:lo*2 ^ s % 18446744073709551616<18446744073709551616:=Nat.mod_lt _ (by omega)
 generalize hi*2 ^ s+lo / 2 ^ (64-s)=u at *
 generalize lo*2 ^ s % 18446744073709551616=V at *
 generalize hi*2 ^ s=H2 at *
 generalize lo / 2 ^ (64-s)=L2 at *
 generalize y*2 ^ s=Y at *
 obtain ⟨y1,hy1⟩:∃ y1,Y / 4294967296=y1:=⟨_,rfl⟩
 obtain ⟨y0,hy0⟩:∃ y0,Y % 4294967296=y0:=⟨_,rfl⟩
 obtain ⟨un1,hv1⟩:∃ v,V / 4294967296=v:=⟨_,rfl⟩
 obtain ⟨un0,hv0⟩:∃ v,V % 4294967296=v:=⟨_,rfl⟩
 have hYe:Y=y1*4294967296+y0:=by omega
 have hVe:V=un1*4294967296+un0:=by omega
 have eV:u*18446744073709551616+V=u*(4294967296*4294967296)+un1*4294967296+un0:=by omega
 have kt:=kn_two (b:=4294967296) (y:=Y) (u:=u) (un1:=un1) (un0:=un0) (by omega)
 rw [<-eV] at kt
 rw [kt.1,kt.2]
 have s6:=shr_nat64 (x:=Y) (s:=32) (by omega) (show (32:Int)=((32:Nat):Int) from rfl)
 have s7:=shr_nat64 (x:=V) (s:=32) (by omega) (show (32:Int)=((32:Nat):Int) from rfl)
 have s8:=mask_nat hY2
 have s9:=mask_nat hV
 rw [show Y / 2 ^ 32=y1 from hy1] at s6
 rw [show V / 2 ^ 32=un1 from hv1] at s7
 rw [hy0] at s8
 rw [hv0] at s9
 have hu:u<y1*4294967296+y0:=by omega
 have h1:un1<4294967296:=by omega
 have kn:=kn_start (show 4294967296<=2*y1 by omega) (show y0<4294967296 by omega) (by omega) hu h1
 have hmr:=Nat.mod_lt u (show 0<y1 by omega)
 have ediv:IntKind.u64.wrap ((u:Int).tdiv y1)=((u / y1:Nat):Int):=by
  have:=Nat.div_le_self u y1
  rw [Int.tdiv_eq_ediv_of_nonneg (by omega),← Int.natCast_ediv,IntKind.wrap_u64]
  generalize u / y1=q at *
  omega
 obtain ⟨q0,hq0⟩:∃ q0,u / y1=q0:=⟨_,rfl⟩
 obtain ⟨r0,hr0⟩:∃ r0,u % y1=r0:=⟨_,rfl⟩
 rw [hq0] at ediv
 rw [hq0,hr0] at kn
 rw [hr0] at hmr
 obtain ⟨M0,hM0⟩:∃ M,q0*y1=M:=⟨_,rfl⟩
 have eM0:(q0:Int)*(y1:Int)=M0:=by rw [<-hM0,Int.natCast_mul]
 have er:(u:Int)-M0=r0:=by omega
 have gne:(y1:Int)≠0:=by omega
 obtain ⟨Q1,hQ1⟩:∃ Q,(u*4294967296+un1) / (y1*4294967296+y0)=Q:=⟨_,rfl⟩
 obtain ⟨R1,hR1⟩:∃ R,(u*4294967296+un1) % Y=R:=⟨_,rfl⟩
 have hQ1b:=kn_below hu h1
 rw [hQ1] at hQ1b
 have hR1b:R1<Y:=by rw [<-hR1];exact Nat.mod_lt _ (by omega)
 have hQY:(u*4294967296+un1) / Y=Q1:=by rw [hYe];exact hQ1
 rw [hQY,hR1]
 obtain ⟨F,hF⟩:∃ F,F=ACode.wp Tryz.prog c98_60:=⟨_,rfl⟩
 have fin:∀ (a1:AFr),(a1 8 = .int .u64 s/\a1 9 = .int .u64 y1/\a1 10 = .int .u64 y0/\a1 2 = .int .u64 Y/\a1 11 = .int .u64 u/\a1 13 = .int .u64 un1/\a1 14 = .int .u64 un0/\a1 15 = .int .u64 Q1)->F (RetQ [.t 6,.t 7] fun v σ'=>v = .tuple [.int .u64 ((Q1*4294967296+(R1*4294967296+un0) / Y:Nat):Int),.int .u64 (((R1*4294967296+un0) % Y / 2 ^ s:Nat):Int)]/\σ'=σ) a1 σ:=by
  intro a1 hf
  rw [hF]
  have e1:=Nat.div_add_mod (u*4294967296+un1) Y
  rw [hR1,hQY] at e1
  obtain ⟨P,hP⟩:∃ P,Y*Q1=P:=⟨_,rfl⟩
  have eP:(Q1:Int)*(Y:Int)=P:=by rw [<-Int.natCast_mul,Nat.mul_comm,hP]
  rw [hP] at e1
  have ew:IntKind.u64.wrap (IntKind.u64.wrap (IntKind.u64.wrap ((u:Int)*4294967296)+un1)-IntKind.u64.wrap P)=R1:=by
   rw [IntKind.wrap_u64,IntKind.wrap_u64,IntKind.wrap_u64,IntKind.wrap_u64]
   omega
  obtain ⟨G,hG⟩:∃ G,G=ACode.wp Tryz.prog c98_59:=⟨_,rfl⟩
  have sec:=fun (a2:AFr)=>div_second (σ:=σ) (s:=s) (y1:=y1) (y0:=y0) (Y:=Y) (un0:=un0) (Q1:=Q1) (R1:=R1) (by omega) (by omega) (by omega) hYe hs hR1b (by omega) hQ1b rfl rfl a2
  rw [<-hG] at sec
  simp (disch:=first|assumption|omega|(simp only [List.length_append,List.length_cons,List.length_nil];omega)) only [go_sem,reduceCtorEq,Nat.reduceEqDiff,Nat.reduceAdd,Nat.reduceSub,Nat.reduceMul,Nat.reduceLeDiff,Int.reduceLT,Int.reduceLE,Int.reduceEq,↓reduceIte,Int.reduceNeg,Int.reduceAdd,Int.reduceSub,Int.reduceMul,true_imp_iff,forall_const,Nat.mul_one,Int.reduceToNat,Nat.reducePow,Int.reducePow,Bool.true_and,Bool.false_and,Bool.and_false,hf,eP,ew,←hG]
  refine sec _ ?_
  simp (disch:=first|assumption|omega|(simp only [List.length_append,List.length_cons,List.length_nil];omega)) only [go_sem,reduceCtorEq,Nat.reduceEqDiff,Nat.reduceAdd,Nat.reduceSub,Nat.reduceMul,Nat.reduceLeDiff,Int.reduceLT,Int.reduceLE,Int.reduceEq,↓reduceIte,Int.reduceNeg,Int.reduceAdd,Int.reduceSub,Int.reduceMul,true_imp_iff,forall_const,Nat.mul_one,Int.reduceToNat,Nat.reducePow,Int.reducePow,Bool.true_and,Bool.false_and,Bool.and_false,hf]
 have gy:(y:Int)≠0:=by omega
 have gle:¬ (y:Int)<=hi:=by omega
 have gh:(hi:Int)≠0:=by omega
 have gz:¬ (hi:Int)=0:=by omega
 have gyz:¬ (y:Int)=0:=by omega
 refine a98 (by simp) ?_
 simp (disch:=first|assumption|omega|(simp only [List.length_append,List.length_cons,List.length_nil];omega)) only [go_sem,reduceCtorEq,Nat.reduceEqDiff,Nat.reduceAdd,Nat.reduceSub,Nat.reduceMul,Nat.reduceLeDiff,Int.reduceLT,Int.reduceLE,Int.reduceEq,↓reduceIte,Int.reduceNeg,Int.reduceAdd,Int.reduceSub,Int.reduceMul,true_imp_iff,forall_const,Nat.mul_one,Int.reduceToNat,Nat.reducePow,Int.reducePow,Bool.true_and,Bool.false_and,Bool.and_false,gyz,gle,gz]
 refine hZ.use ?_
 simp (disch:=first|assumption|omega|(simp only [List.length_append,List.length_cons,List.length_nil];omega)) only [go_sem,reduceCtorEq,Nat.reduceEqDiff,Nat.reduceAdd,Nat.reduceSub,Nat.reduceMul,Nat.reduceLeDiff,Int.reduceLT,Int.reduceLE,Int.reduceEq,↓reduceIte,Int.reduceNeg,Int.reduceAdd,Int.reduceSub,Int.reduceMul,true_imp_iff,forall_const,Nat.mul_one,Int.reduceToNat,Nat.reducePow,Int.reducePow,Bool.true_and,Bool.false_and,Bool.and_false,s1,s2,s3,s4,s5,s6,s7,s8,s9,ediv,gne,eM0,er,←hF]
 refine wp_loop_on (fun (i:Nat×Nat) a1 s2=>(a1 8 = .int .u64 s/\a1 9 = .int .u64 y1/\a1 10 = .int .u64 y0/\a1 2 = .int .u64 Y/\a1 11 = .int .u64 u/\a1 13 = .int .u64 un1/\a1 14 = .int .u64 un0)/\(u=i.1*y1+i.2/\(u*4294967296+un1) / (y1*4294967296+y0)<=i.1/\i.1<=4294967297/\i.2<4294967296)/\(a1 15 = .int .u64 i.1/\a1 16 = .int .u64 i.2)/\s2=σ) (fun i=>i.1) (q0,r0) ⟨?_,⟨kn.1,kn.2.1,kn.2.2,by omega⟩,?_,rfl⟩ ?_
 ·simp (disch:=first|assumption|omega|(simp only [List.length_append,List.length_cons,List.length_nil];omega)) only [go_sem,reduceCtorEq,Nat.reduceEqDiff,Nat.reduceAdd,Nat.reduceSub,Nat.reduceMul,Nat.reduceLeDiff,Int.reduceLT,Int.reduceLE,Int.reduceEq,↓reduceIte,Int.reduceNeg,Int.reduceAdd,Int.reduceSub,Int.reduceMul,true_imp_iff,forall_const,Nat.mul_one,Int.reduceToNat,Nat.reducePow,Int.reducePow,Bool.true_and,Bool.false_and,Bool.and_false]
 ·simp (disch:=first|assumption|omega|(simp only [List.length_append,List.length_cons,List.length_nil];omega)) only [go_sem,reduceCtorEq,Nat.reduceEqDiff,Nat.reduceAdd,Nat.reduceSub,Nat.reduceMul,Nat.reduceLeDiff,Int.reduceLT,Int.reduceLE,Int.reduceEq,↓reduceIte,Int.reduceNeg,Int.reduceAdd,Int.reduceSub,Int.reduceMul,true_imp_iff,forall_const,Nat.mul_one,Int.reduceToNat,Nat.reducePow,Int.reducePow,Bool.true_and,Bool.false_and,Bool.and_false]
 rintro ⟨q,r⟩ a1 s2 ⟨hf,⟨i1,i2,i3,i4⟩,hg,rfl⟩
 dsimp only at i1 i2 i3 i4 hg
 obtain ⟨M,hM⟩:∃ M,q*y0=M:=⟨_,rfl⟩
 have eM:(q:Int)*(y0:Int)=M:=by rw [<-hM,Int.natCast_mul]
 by_cases hc:4294967296<=q\/4294967296*r+un1<q*y0
 ·obtain ⟨d1,d2⟩:=kn_dec i1 hu h1 hc
  have e1:(q:Int)-1=((q-1:Nat):Int):=by omega
  have e2:(r:Int)+y1=((r+y1:Nat):Int):=by omega
  by_cases hbr:4294967296<=r+y1
  ·have hbr':(4294967296:Int)<=r+y1:=by omega
   have hfin:=kn_fin (by omega) d2 (show (q-1)*y0<=4294967296*(r+y1)+un1 by
    have h1:(q-1)*y0<=4294967296*4294967296:=Nat.mul_le_mul (by omega) (by omega)
    omega) (by omega)
   have hq1:(q:Int)-1=Q1:=by rw [e1,hfin];exact congrArg _ hQ1
   by_cases hcq:4294967296<=q
   ·have hcq':(4294967296:Int)<=q:=by omega
    simp (disch:=first|assumption|omega|(simp only [List.length_append,List.length_cons,List.length_nil];omega)) only [go_sem,reduceCtorEq,Nat.reduceEqDiff,Nat.reduceAdd,Nat.reduceSub,Nat.reduceMul,Nat.reduceLeDiff,Int.reduceLT,Int.reduceLE,Int.reduceEq,↓reduceIte,Int.reduceNeg,Int.reduceAdd,Int.reduceSub,Int.reduceMul,true_imp_iff,forall_const,Nat.mul_one,Int.reduceToNat,Nat.reducePow,Int.reducePow,Bool.true_and,Bool.false_and,Bool.and_false,hf,hg,hcq',hbr',←hF]
    refine fin _ ?_
    simp (disch:=first|assumption|omega|(simp only [List.length_append,List.length_cons,List.length_nil];omega)) only [go_sem,reduceCtorEq,Nat.reduceEqDiff,Nat.reduceAdd,Nat.reduceSub,Nat.reduceMul,Nat.reduceLeDiff,Int.reduceLT,Int.reduceLE,Int.reduceEq,↓reduceIte,Int.reduceNeg,Int.reduceAdd,Int.reduceSub,Int.reduceMul,true_imp_iff,forall_const,Nat.mul_one,Int.reduceToNat,Nat.reducePow,Int.reducePow,Bool.true_and,Bool.false_and,Bool.and_false,hf,hg,hq1]
   ·have hcq':¬ (4294967296:Int)<=q:=by omega
    have hM2:M<18446744073709551616:=by
     have:=Nat.mul_le_mul (show q<=4294967295 by omega) (show y0<=4294967295 by omega)
     omega
    have hcm:4294967296*(r:Int)+un1<M:=by omega
    simp (disch:=first|assumption|omega|(simp only [List.length_append,List.length_cons,List.length_nil];omega)) only [go_sem,reduceCtorEq,Nat.reduceEqDiff,Nat.reduceAdd,Nat.reduceSub,Nat.reduceMul,Nat.reduceLeDiff,Int.reduceLT,Int.reduceLE,Int.reduceEq,↓reduceIte,Int.reduceNeg,Int.reduceAdd,Int.reduceSub,Int.reduceMul,true_imp_iff,forall_const,Nat.mul_one,Int.reduceToNat,Nat.reducePow,Int.reducePow,Bool.true_and,Bool.false_and,Bool.and_false,hf,hg,hcq',eM,hcm,hbr',←hF]
    refine fin _ ?_
    simp (disch:=first|assumption|omega|(simp only [List.length_append,List.length_cons,List.length_nil];omega)) only [go_sem,reduceCtorEq,Nat.reduceEqDiff,Nat.reduceAdd,Nat.reduceSub,Nat.reduceMul,Nat.reduceLeDiff,Int.reduceLT,Int.reduceLE,Int.reduceEq,↓reduceIte,Int.reduceNeg,Int.reduceAdd,Int.reduceSub,Int.reduceMul,true_imp_iff,forall_const,Nat.mul_one,Int.reduceToNat,Nat.reducePow,Int.reducePow,Bool.true_and,Bool.false_and,Bool.and_false,hf,hg,hq1]
  ·have hbr':¬ (4294967296:Int)<=r+y1:=by omega
   by_cases hcq:4294967296<=q
   ·have hcq':(4294967296:Int)<=q:=by omega
    simp (disch:=first|assumption|omega|(simp only [List.length_append,List.length_cons,List.length_nil];omega)) only [go_sem,reduceCtorEq,Nat.reduceEqDiff,Nat.reduceAdd,Nat.reduceSub,Nat.reduceMul,Nat.reduceLeDiff,Int.reduceLT,Int.reduceLE,Int.reduceEq,↓reduceIte,Int.reduceNeg,Int.reduceAdd,Int.reduceSub,Int.reduceMul,true_imp_iff,forall_const,Nat.mul_one,Int.reduceToNat,Nat.reducePow,Int.reducePow,Bool.true_and,Bool.false_and,Bool.and_false,hf,hg,hcq',hbr',e1]
    exact ⟨(q-1,r+y1),by dsimp only;omega,⟨d2,by dsimp only;omega,by dsimp only;omega,by dsimp only;omega⟩,⟨rfl,rfl⟩⟩
   ·have hcq':¬ (4294967296:Int)<=q:=by omega
    have hM2:M<18446744073709551616:=by
     have:=Nat.mul_le_mul (show q<=4294967295 by omega) (show y0<=4294967295 by omega)
     omega
    have hcm:4294967296*(r:Int)+un1<M:=by omega
    simp (disch:=first|assumption|omega|(simp only [List.length_append,List.length_cons,List.length_nil];omega)) only [go_sem,reduceCtorEq,Nat.reduceEqDiff,Nat.reduceAdd,Nat.reduceSub,Nat.reduceMul,Nat.reduceLeDiff,Int.reduceLT,Int.reduceLE,Int.reduceEq,↓reduceIte,Int.reduceNeg,Int.reduceAdd,Int.reduceSub,Int.reduceMul,true_imp_iff,forall_const,Nat.mul_one,Int.reduceToNat,Nat.reducePow,Int.reducePow,Bool.true_and,Bool.false_and,Bool.and_false,hf,hg,hcq',eM,hcm,hbr',e1]
    exact ⟨(q-1,r+y1),by dsimp only;omega,⟨d2,by dsimp only;omega,by dsimp only;omega,by dsimp only;omega⟩,⟨rfl,rfl⟩⟩
 ·have hc1:¬ 4294967296<=q:=fun h=>hc (.inl h)
  have hc2:¬ 4294967296*r+un1<q*y0:=fun h=>hc (.inr h)
  have hfin:=kn_fin (by omega) i1 (by omega) i2
  have hq1:(q:Int)=Q1:=by rw [hfin];exact congrArg _ hQ1
  have hcq':¬ (4294967296:Int)<=q:=by omega
  have hM2:M<18446744073709551616:=by
   have:=Nat.mul_le_mul (show q<=4294967295 by omega) (show y0<=4294967295 by omega)
   omega
  have hcm:¬ 4294967296*(r:Int)+un1<M:=by omega
  simp (disch:=first|assumption|omega|(simp only [List.length_append,List.length_cons,List.length_nil];omega)) only [go_sem,reduceCtorEq,Nat.reduceEqDiff,Nat.reduceAdd,Nat.reduceSub,Nat.reduceMul,Nat.reduceLeDiff,Int.reduceLT,Int.reduceLE,Int.reduceEq,↓reduceIte,Int.reduceNeg,Int.reduceAdd,Int.reduceSub,Int.reduceMul,true_imp_iff,forall_const,Nat.mul_one,Int.reduceToNat,Nat.reducePow,Int.reducePow,Bool.true_and,Bool.false_and,Bool.and_false,hf,hg,hcq',eM,hcm,←hF]
  refine fin _ ?_
  simp (disch:=first|assumption|omega|(simp only [List.length_append,List.length_cons,List.length_nil];omega)) only [go_sem,reduceCtorEq,Nat.reduceEqDiff,Nat.reduceAdd,Nat.reduceSub,Nat.reduceMul,Nat.reduceLeDiff,Int.reduceLT,Int.reduceLE,Int.reduceEq,↓reduceIte,Int.reduceNeg,Int.reduceAdd,Int.reduceSub,Int.reduceMul,true_imp_iff,forall_const,Nat.mul_one,Int.reduceToNat,Nat.reducePow,Int.reducePow,Bool.true_and,Bool.false_and,Bool.and_false,hf,hg,hq1]
end Go.A
namespace Go.A
open Go.Proofs
def quoW (n y:Nat):Nat:=if y-n % y<=n % y then (n / y+1) % 18446744073709551616 else n / y
def quoAV (n y:Nat):AV:=if n / 18446744073709551616<y then .tuple [.int .u64 (quoW n y:Nat),.bool (decide (quoW n y<=999999999999999999))] else .tuple [.int .u64 0,.bool false]
theorem quot128_ok (n y:Nat) (hn:n<340282366920938463463374607431768211456) (hy:0<y) (hy2:y<9223372036854775809) :
  Pure Tryz.prog 91 [.int .u64 ((n / 18446744073709551616:Nat):Int),.int .u64 ((n % 18446744073709551616:Nat):Int),.int .u64 y] (quoAV n y):=by
 intro σ
 unfold quoAV
 by_cases hlt:n / 18446744073709551616<y
 ·rw [if_pos hlt]
  have hD:=div128_ok (hi:=n / 18446744073709551616) (lo:=n % 18446744073709551616) (y:=y) (by omega) (by omega) hlt
  have en:n / 18446744073709551616*18446744073709551616+n % 18446744073709551616=n:=by omega
  rw [en] at hD
  have hz:n % y<y:=Nat.mod_lt _ hy
  have hq:n / y<18446744073709551616:=by
   refine Nat.div_lt_of_lt_mul ?_
   have:=Nat.mul_le_mul_right 18446744073709551616 hlt
   rw [Nat.succ_mul] at this
   omega
  obtain ⟨N,hN⟩:∃ N,quoW n y=N:=⟨_,rfl⟩
  have hN2:=hN
  unfold quoW at hN2
  rw [hN]
  generalize n / 18446744073709551616=H at *
  generalize n % 18446744073709551616=L at *
  generalize n / y=q at *
  generalize n % y=r at *
  clear hN en
  have g1:¬ (y:Int)<=H:=by omega
  refine a91 (by simp) ?_
  simp (disch:=first|assumption|omega|(simp only [List.length_append,List.length_cons,List.length_nil];omega)) only [go_sem,reduceCtorEq,Nat.reduceEqDiff,Nat.reduceAdd,Nat.reduceSub,Nat.reduceMul,Nat.reduceLeDiff,Int.reduceLT,Int.reduceLE,Int.reduceEq,↓reduceIte,Int.reduceNeg,Int.reduceAdd,Int.reduceSub,Int.reduceMul,true_imp_iff,forall_const,Nat.mul_one,Int.reduceToNat,Nat.reducePow,Int.reducePow,Bool.true_and,Bool.false_and,Bool.and_false,g1]
  refine hD.use ?_
  simp (disch:=first|assumption|omega|(simp only [List.length_append,List.length_cons,List.length_nil];omega)) only [go_sem,reduceCtorEq,Nat.reduceEqDiff,Nat.reduceAdd,Nat.reduceSub,Nat.reduceMul,Nat.reduceLeDiff,Int.reduceLT,Int.reduceLE,Int.reduceEq,↓reduceIte,Int.reduceNeg,Int.reduceAdd,Int.reduceSub,Int.reduceMul,true_imp_iff,forall_const,Nat.mul_one,Int.reduceToNat,Nat.reducePow,Int.reducePow,Bool.true_and,Bool.false_and,Bool.and_false]
  have e3:decide ((N:Int)<=999999999999999999)=decide (N<=999999999999999999):=decide_eq_decide.2 (by omega)
  by_cases hc:y-r<=r
  ·have g2:(y:Int)-r<=r:=by omega
   rw [if_pos hc] at hN2
   have e2:IntKind.u64.wrap ((q:Int)+1)=N:=by rw [IntKind.wrap_u64];omega
   simp (disch:=first|assumption|omega|(simp only [List.length_append,List.length_cons,List.length_nil];omega)) only [go_sem,reduceCtorEq,Nat.reduceEqDiff,Nat.reduceAdd,Nat.reduceSub,Nat.reduceMul,Nat.reduceLeDiff,Int.reduceLT,Int.reduceLE,Int.reduceEq,↓reduceIte,Int.reduceNeg,Int.reduceAdd,Int.reduceSub,Int.reduceMul,true_imp_iff,forall_const,Nat.mul_one,Int.reduceToNat,Nat.reducePow,Int.reducePow,Bool.true_and,Bool.false_and,Bool.and_false,g2,e2]
   refine retC_by (by repeat' (first|exact Drop.refl _|with_reducible refine Drop.off ?_ (by assumption))) (.refl _) ⟨?_,rfl⟩
   rw [<-e3];rfl
  ·have g2:¬ (y:Int)-r<=r:=by omega
   rw [if_neg hc] at hN2
   subst hN2
   simp (disch:=first|assumption|omega|(simp only [List.length_append,List.length_cons,List.length_nil];omega)) only [go_sem,reduceCtorEq,Nat.reduceEqDiff,Nat.reduceAdd,Nat.reduceSub,Nat.reduceMul,Nat.reduceLeDiff,Int.reduceLT,Int.reduceLE,Int.reduceEq,↓reduceIte,Int.reduceNeg,Int.reduceAdd,Int.reduceSub,Int.reduceMul,true_imp_iff,forall_const,Nat.mul_one,Int.reduceToNat,Nat.reducePow,Int.reducePow,Bool.true_and,Bool.false_and,Bool.and_false,g2]
   refine retC_by (by repeat' (first|exact Drop.refl _|with_reducible refine Drop.off ?_ (by assumption))) (.refl _) ⟨?_,rfl⟩
   rw [<-e3];rfl
 ·rw [if_neg hlt]
  generalize n / 18446744073709551616=H at *
  generalize n % 18446744073709551616=L at *
  have g1:(y:Int)<=H:=by omega
  refine a91 (by simp) ?_
  simp (disch:=first|assumption|omega|(simp only [List.length_append,List.length_cons,List.length_nil];omega)) only [go_sem,reduceCtorEq,Nat.reduceEqDiff,Nat.reduceAdd,Nat.reduceSub,Nat.reduceMul,Nat.reduceLeDiff,Int.reduceLT,Int.reduceLE,Int.reduceEq,↓reduceIte,Int.reduceNeg,Int.reduceAdd,Int.reduceSub,Int.reduceMul,true_imp_iff,forall_const,Nat.mul_one,Int.reduceToNat,Nat.reducePow,Int.reducePow,Bool.true_and,Bool.false_and,Bool.and_false,g1]
  exact retC_by (by repeat' (first|exact Drop.refl _|with_reducible refine Drop.off ?_ (by assumption))) (.refl _) ⟨rfl,rfl⟩
def quoD (m:Bool) (n y:Nat):Option Int:=if n / 18446744073709551616<y/\quoW n y<=999999999999999999 then some (if m=true then -(quoW n y:Int) else quoW n y) else none
def mulD (a b:Int):Option Int:=quoD (!(decide (a<0)==decide (b<0))) (a.natAbs*b.natAbs) 10000
def divD (a b:Int):Option Int:=if b=0 then none else quoD (!(decide (a<0)==decide (b<0))) (a.natAbs*10000) b.natAbs
theorem made_quo {m:Bool} {n y:Nat} (h:quoW n y<=999999999999999999):Pure Tryz.prog 62 [.bool m,.int .u64 0,.int .u64 (quoW n y:Nat)] (resAV (some (if m=true then -(quoW n y:Int) else quoW n y))):=by
 have:=made_ok m (quoW n y) (by omega)
 unfold madeP at this
 rw [if_pos h] at this
 exact this
theorem mul_ok (a b:Int) (ha:a.natAbs<=9223372036854775807) (hb:b.natAbs<=9223372036854775807):Pure Tryz.prog 70 [.int .i64 a,.int .i64 b] (resAV (mulD a b)):=by
 intro σ
 have hA:=size_ok a (by omega) (by omega)
 have hB:=size_ok b (by omega) (by omega)
 have hM:=mul64_ok a.natAbs b.natAbs (by omega) (by omega)
 have hle:a.natAbs*b.natAbs<=9223372036854775807*9223372036854775807:=Nat.mul_le_mul ha hb
 have hQ:=quot128_ok (a.natAbs*b.natAbs) 10000 (by omega) (by omega) (by omega)
 unfold mulD quoD
 unfold quoAV at hQ
 rw [show (((10000:Nat):Int))=10000 from rfl] at hQ
 obtain ⟨m,hm⟩:∃ m,(!(decide (a<0)==decide (b<0)))=m:=⟨_,rfl⟩
 rw [hm]
 generalize a.natAbs*b.natAbs=n at *
 clear hle
 refine a70 (by simp) ?_
 simp (disch:=first|assumption|omega|(simp only [List.length_append,List.length_cons,List.length_nil];omega)) only [go_sem,reduceCtorEq,Nat.reduceEqDiff,Nat.reduceAdd,Nat.reduceSub,Nat.reduceMul,Nat.reduceLeDiff,Int.reduceLT,Int.reduceLE,Int.reduceEq,↓reduceIte,Int.reduceNeg,Int.reduceAdd,Int.reduceSub,Int.reduceMul,true_imp_iff,forall_const,Nat.mul_one,Int.reduceToNat,Nat.reducePow,Int.reducePow,Bool.true_and,Bool.false_and,Bool.and_false]
 refine hA.use ?_
 simp (disch:=first|assumption|omega|(simp only [List.length_append,List.length_cons,List.length_nil];omega)) only [go_sem,reduceCtorEq,Nat.reduceEqDiff,Nat.reduceAdd,Nat.reduceSub,Nat.reduceMul,Nat.reduceLeDiff,Int.reduceLT,Int.reduceLE,Int.reduceEq,↓reduceIte,Int.reduceNeg,Int.reduceAdd,Int.reduceSub,Int.reduceMul,true_imp_iff,forall_const,Nat.mul_one,Int.reduceToNat,Nat.reducePow,Int.reducePow,Bool.true_and,Bool.false_and,Bool.and_false]
 refine hB.use ?_
 simp (disch:=first|assumption|omega|(simp only [List.length_append,List.length_cons,List.length_nil];omega)) only [go_sem,reduceCtorEq,Nat.reduceEqDiff,Nat.reduceAdd,Nat.reduceSub,Nat.reduceMul,Nat.reduceLeDiff,Int.reduceLT,Int.reduceLE,Int.reduceEq,↓reduceIte,Int.reduceNeg,Int.reduceAdd,Int.reduceSub,Int.reduceMul,true_imp_iff,forall_const,Nat.mul_one,Int.reduceToNat,Nat.reducePow,Int.reducePow,Bool.true_and,Bool.false_and,Bool.and_false]
 refine hM.use ?_
 by_cases h1:n / 18446744073709551616<10000
 ·rw [if_pos h1] at hQ
  by_cases h2:quoW n 10000<=999999999999999999
  ·rw [if_pos ⟨h1,h2⟩]
   have hD:=made_quo (m:=m) h2
   rw [decide_eq_true h2] at hQ
   simp only [resAV,Option.getD_some,Option.isSome_some] at hD ⊢
   generalize n / 18446744073709551616=H at *
   generalize n % 18446744073709551616=L at *
   generalize quoW n 10000=q at *
   simp (disch:=first|assumption|omega|(simp only [List.length_append,List.length_cons,List.length_nil];omega)) only [go_sem,reduceCtorEq,Nat.reduceEqDiff,Nat.reduceAdd,Nat.reduceSub,Nat.reduceMul,Nat.reduceLeDiff,Int.reduceLT,Int.reduceLE,Int.reduceEq,↓reduceIte,Int.reduceNeg,Int.reduceAdd,Int.reduceSub,Int.reduceMul,true_imp_iff,forall_const,Nat.mul_one,Int.reduceToNat,Nat.reducePow,Int.reducePow,Bool.true_and,Bool.false_and,Bool.and_false]
   refine hQ.use ?_
   simp (disch:=first|assumption|omega|(simp only [List.length_append,List.length_cons,List.length_nil];omega)) only [go_sem,reduceCtorEq,Nat.reduceEqDiff,Nat.reduceAdd,Nat.reduceSub,Nat.reduceMul,Nat.reduceLeDiff,Int.reduceLT,Int.reduceLE,Int.reduceEq,↓reduceIte,Int.reduceNeg,Int.reduceAdd,Int.reduceSub,Int.reduceMul,true_imp_iff,forall_const,Nat.mul_one,Int.reduceToNat,Nat.reducePow,Int.reducePow,Bool.true_and,Bool.false_and,Bool.and_false,hm]
   refine hD.use ?_
   simp (disch:=first|assumption|omega|(simp only [List.length_append,List.length_cons,List.length_nil];omega)) only [go_sem,reduceCtorEq,Nat.reduceEqDiff,Nat.reduceAdd,Nat.reduceSub,Nat.reduceMul,Nat.reduceLeDiff,Int.reduceLT,Int.reduceLE,Int.reduceEq,↓reduceIte,Int.reduceNeg,Int.reduceAdd,Int.reduceSub,Int.reduceMul,true_imp_iff,forall_const,Nat.mul_one,Int.reduceToNat,Nat.reducePow,Int.reducePow,Bool.true_and,Bool.false_and,Bool.and_false]
   exact retC_by (by repeat' (first|exact Drop.refl _|with_reducible refine Drop.off ?_ (by assumption))) (.refl _) ⟨rfl,rfl⟩
  ·rw [if_neg (fun h=>h2 h.2)]
   rw [decide_eq_false h2] at hQ
   simp only [resAV,Option.getD_none,Option.isSome_none]
   generalize n / 18446744073709551616=H at *
   generalize n % 18446744073709551616=L at *
   generalize quoW n 10000=q at *
   simp (disch:=first|assumption|omega|(simp only [List.length_append,List.length_cons,List.length_nil];omega)) only [go_sem,reduceCtorEq,Nat.reduceEqDiff,Nat.reduceAdd,Nat.reduceSub,Nat.reduceMul,Nat.reduceLeDiff,Int.reduceLT,Int.reduceLE,Int.reduceEq,↓reduceIte,Int.reduceNeg,Int.reduceAdd,Int.reduceSub,Int.reduceMul,true_imp_iff,forall_const,Nat.mul_one,Int.reduceToNat,Nat.reducePow,Int.reducePow,Bool.true_and,Bool.false_and,Bool.and_false]
   refine hQ.use ?_
   simp (disch:=first|assumption|omega|(simp only [List.length_append,List.length_cons,List.length_nil];omega)) only [go_sem,reduceCtorEq,Nat.reduceEqDiff,Nat.reduceAdd,Nat.reduceSub,Nat.reduceMul,Nat.reduceLeDiff,Int.reduceLT,Int.reduceLE,Int.reduceEq,↓reduceIte,Int.reduceNeg,Int.reduceAdd,Int.reduceSub,Int.reduceMul,true_imp_iff,forall_const,Nat.mul_one,Int.reduceToNat,Nat.reducePow,Int.reducePow,Bool.true_and,Bool.false_and,Bool.and_false]
   exact retC_by (by repeat' (first|exact Drop.refl _|with_reducible refine Drop.off ?_ (by assumption))) (.refl _) ⟨rfl,rfl⟩
 ·rw [if_neg h1] at hQ
  rw [if_neg (fun h=>h1 h.1)]
  simp only [resAV,Option.getD_none,Option.isSome_none]
  generalize n / 18446744073709551616=H at *
  generalize n % 18446744073709551616=L at *
  simp (disch:=first|assumption|omega|(simp only [List.length_append,List.length_cons,List.length_nil];omega)) only [go_sem,reduceCtorEq,Nat.reduceEqDiff,Nat.reduceAdd,Nat.reduceSub,Nat.reduceMul,Nat.reduceLeDiff,Int.reduceLT,Int.reduceLE,Int.reduceEq,↓reduceIte,Int.reduceNeg,Int.reduceAdd,Int.reduceSub,Int.reduceMul,true_imp_iff,forall_const,Nat.mul_one,Int.reduceToNat,Nat.reducePow,Int.reducePow,Bool.true_and,Bool.false_and,Bool.and_false]
  refine hQ.use ?_
  simp (disch:=first|assumption|omega|(simp only [List.length_append,List.length_cons,List.length_nil];omega)) only [go_sem,reduceCtorEq,Nat.reduceEqDiff,Nat.reduceAdd,Nat.reduceSub,Nat.reduceMul,Nat.reduceLeDiff,Int.reduceLT,Int.reduceLE,Int.reduceEq,↓reduceIte,Int.reduceNeg,Int.reduceAdd,Int.reduceSub,Int.reduceMul,true_imp_iff,forall_const,Nat.mul_one,Int.reduceToNat,Nat.reducePow,Int.reducePow,Bool.true_and,Bool.false_and,Bool.and_false]
  exact retC_by (by repeat' (first|exact Drop.refl _|with_reducible refine Drop.off ?_ (by assumption))) (.refl _) ⟨rfl,rfl⟩
theorem div_ok (a b:Int) (ha:a.natAbs<=9223372036854775807) (hb:b.natAbs<=9223372036854775807):Pure Tryz.prog 90 [.int .i64 a,.int .i64 b] (resAV (divD a b)):=by
 intro σ
 unfold divD
 by_cases hb0:b=0
 ·rw [if_pos hb0]
  subst hb0
  refine a90 (by simp) ?_
  simp (disch:=first|assumption|omega|(simp only [List.length_append,List.length_cons,List.length_nil];omega)) only [go_sem,reduceCtorEq,Nat.reduceEqDiff,Nat.reduceAdd,Nat.reduceSub,Nat.reduceMul,Nat.reduceLeDiff,Int.reduceLT,Int.reduceLE,Int.reduceEq,↓reduceIte,Int.reduceNeg,Int.reduceAdd,Int.reduceSub,Int.reduceMul,true_imp_iff,forall_const,Nat.mul_one,Int.reduceToNat,Nat.reducePow,Int.reducePow,Bool.true_and,Bool.false_and,Bool.and_false]
  exact retC_by (by repeat' (first|exact Drop.refl _|with_reducible refine Drop.off ?_ (by assumption))) (.refl _) ⟨rfl,rfl⟩
 rw [if_neg hb0]
 have hA:=size_ok a (by omega) (by omega)
 have hB:=size_ok b (by omega) (by omega)
 have hM:=mul64_ok a.natAbs 10000 (by omega) (by omega)
 have hQ:=quot128_ok (a.natAbs*10000) b.natAbs (by omega) (by omega) (by omega)
 unfold quoD
 unfold quoAV at hQ
 rw [show (((10000:Nat):Int))=10000 from rfl] at hM
 obtain ⟨m,hm⟩:∃ m,(!(decide (a<0)==decide (b<0)))=m:=⟨_,rfl⟩
 rw [hm]
 generalize a.natAbs*10000=n at *
 generalize b.natAbs=y at *
 refine a90 (by simp) ?_
 simp (disch:=first|assumption|omega|(simp only [List.length_append,List.length_cons,List.length_nil];omega)) only [go_sem,reduceCtorEq,Nat.reduceEqDiff,Nat.reduceAdd,Nat.reduceSub,Nat.reduceMul,Nat.reduceLeDiff,Int.reduceLT,Int.reduceLE,Int.reduceEq,↓reduceIte,Int.reduceNeg,Int.reduceAdd,Int.reduceSub,Int.reduceMul,true_imp_iff,forall_const,Nat.mul_one,Int.reduceToNat,Nat.reducePow,Int.reducePow,Bool.true_and,Bool.false_and,Bool.and_false,hb0]
 refine hA.use ?_
 simp (disch:=first|assumption|omega|(simp only [List.length_append,List.length_cons,List.length_nil];omega)) only [go_sem,reduceCtorEq,Nat.reduceEqDiff,Nat.reduceAdd,Nat.reduceSub,Nat.reduceMul,Nat.reduceLeDiff,Int.reduceLT,Int.reduceLE,Int.reduceEq,↓reduceIte,Int.reduceNeg,Int.reduceAdd,Int.reduceSub,Int.reduceMul,true_imp_iff,forall_const,Nat.mul_one,Int.reduceToNat,Nat.reducePow,Int.reducePow,Bool.true_and,Bool.false_and,Bool.and_false]
 refine hM.use ?_
 by_cases h1:n / 18446744073709551616<y
 ·rw [if_pos h1] at hQ
  by_cases h2:quoW n y<=999999999999999999
  ·rw [if_pos ⟨h1,h2⟩]
   have hD:=made_quo (m:=m) h2
   rw [decide_eq_true h2] at hQ
   simp only [resAV,Option.getD_some,Option.isSome_some] at hD ⊢
   generalize n / 18446744073709551616=H at *
   generalize n % 18446744073709551616=L at *
   generalize quoW n y=q at *
   simp (disch:=first|assumption|omega|(simp only [List.length_append,List.length_cons,List.length_nil];omega)) only [go_sem,reduceCtorEq,Nat.reduceEqDiff,Nat.reduceAdd,Nat.reduceSub,Nat.reduceMul,Nat.reduceLeDiff,Int.reduceLT,Int.reduceLE,Int.reduceEq,↓reduceIte,Int.reduceNeg,Int.reduceAdd,Int.reduceSub,Int.reduceMul,true_imp_iff,forall_const,Nat.mul_one,Int.reduceToNat,Nat.reducePow,Int.reducePow,Bool.true_and,Bool.false_and,Bool.and_false]
   refine hB.use ?_
   simp (disch:=first|assumption|omega|(simp only [List.length_append,List.length_cons,List.length_nil];omega)) only [go_sem,reduceCtorEq,Nat.reduceEqDiff,Nat.reduceAdd,Nat.reduceSub,Nat.reduceMul,Nat.reduceLeDiff,Int.reduceLT,Int.reduceLE,Int.reduceEq,↓reduceIte,Int.reduceNeg,Int.reduceAdd,Int.reduceSub,Int.reduceMul,true_imp_iff,forall_const,Nat.mul_one,Int.reduceToNat,Nat.reducePow,Int.reducePow,Bool.true_and,Bool.false_and,Bool.and_false]
   refine hQ.use ?_
   simp (disch:=first|assumption|omega|(simp only [List.length_append,List.length_cons,List.length_nil];omega)) only [go_sem,reduceCtorEq,Nat.reduceEqDiff,Nat.reduceAdd,Nat.reduceSub,Nat.reduceMul,Nat.reduceLeDiff,Int.reduceLT,Int.reduceLE,Int.reduceEq,↓reduceIte,Int.reduceNeg,Int.reduceAdd,Int.reduceSub,Int.reduceMul,true_imp_iff,forall_const,Nat.mul_one,Int.reduceToNat,Nat.reducePow,Int.reducePow,Bool.true_and,Bool.false_and,Bool.and_false,hm]
   refine hD.use ?_
   simp (disch:=first|assumption|omega|(simp only [List.length_append,List.length_cons,List.length_nil];omega)) only [go_sem,reduceCtorEq,Nat.reduceEqDiff,Nat.reduceAdd,Nat.reduceSub,Nat.reduceMul,Nat.reduceLeDiff,Int.reduceLT,Int.reduceLE,Int.reduceEq,↓reduceIte,Int.reduceNeg,Int.reduceAdd,Int.reduceSub,Int.reduceMul,true_imp_iff,forall_const,Nat.mul_one,Int.reduceToNat,Nat.reducePow,Int.reducePow,Bool.true_and,Bool.false_and,Bool.and_false]
   exact retC_by (by repeat' (first|exact Drop.refl _|with_reducible refine Drop.off ?_ (by assumption))) (.refl _) ⟨rfl,rfl⟩
  ·rw [if_neg (fun h=>h2 h.2)]
   rw [decide_eq_false h2] at hQ
   simp only [resAV,Option.getD_none,Option.isSome_none]
   generalize n / 18446744073709551616=H at *
   generalize n % 18446744073709551616=L at *
   generalize quoW n y=q at *
   simp (disch:=first|assumption|omega|(simp only [List.length_append,List.length_cons,List.length_nil];omega)) only [go_sem,reduceCtorEq,Nat.reduceEqDiff,Nat.reduceAdd,Nat.reduceSub,Nat.reduceMul,Nat.reduceLeDiff,Int.reduceLT,Int.reduceLE,Int.reduceEq,↓reduceIte,Int.reduceNeg,Int.reduceAdd,Int.reduceSub,Int.reduceMul,true_imp_iff,forall_const,Nat.mul_one,Int.reduceToNat,Nat.reducePow,Int.reducePow,Bool.true_and,Bool.false_and,Bool.and_false]
   refine hB.use ?_
   simp (disch:=first|assumption|omega|(simp only [List.length_append,List.length_cons,List.length_nil];omega)) only [go_sem,reduceCtorEq,Nat.reduceEqDiff,Nat.reduceAdd,Nat.reduceSub,Nat.reduceMul,Nat.reduceLeDiff,Int.reduceLT,Int.reduceLE,Int.reduceEq,↓reduceIte,Int.reduceNeg,Int.reduceAdd,Int.reduceSub,Int.reduceMul,true_imp_iff,forall_const,Nat.mul_one,Int.reduceToNat,Nat.reducePow,Int.reducePow,Bool.true_and,Bool.false_and,Bool.and_false]
   refine hQ.use ?_
   simp (disch:=first|assumption|omega|(simp only [List.length_append,List.length_cons,List.length_nil];omega)) only [go_sem,reduceCtorEq,Nat.reduceEqDiff,Nat.reduceAdd,Nat.reduceSub,Nat.reduceMul,Nat.reduceLeDiff,Int.reduceLT,Int.reduceLE,Int.reduceEq,↓reduceIte,Int.reduceNeg,Int.reduceAdd,Int.reduceSub,Int.reduceMul,true_imp_iff,forall_const,Nat.mul_one,Int.reduceToNat,Nat.reducePow,Int.reducePow,Bool.true_and,Bool.false_and,Bool.and_false]
   exact retC_by (by repeat' (first|exact Drop.refl _|with_reducible refine Drop.off ?_ (by assumption))) (.refl _) ⟨rfl,rfl⟩
 ·rw [if_neg h1] at hQ
  rw [if_neg (fun h=>h1 h.1)]
  simp only [resAV,Option.getD_none,Option.isSome_none]
  generalize n / 18446744073709551616=H at *
  generalize n % 18446744073709551616=L at *
  simp (disch:=first|assumption|omega|(simp only [List.length_append,List.length_cons,List.length_nil];omega)) only [go_sem,reduceCtorEq,Nat.reduceEqDiff,Nat.reduceAdd,Nat.reduceSub,Nat.reduceMul,Nat.reduceLeDiff,Int.reduceLT,Int.reduceLE,Int.reduceEq,↓reduceIte,Int.reduceNeg,Int.reduceAdd,Int.reduceSub,Int.reduceMul,true_imp_iff,forall_const,Nat.mul_one,Int.reduceToNat,Nat.reducePow,Int.reducePow,Bool.true_and,Bool.false_and,Bool.and_false]
  refine hB.use ?_
  simp (disch:=first|assumption|omega|(simp only [List.length_append,List.length_cons,List.length_nil];omega)) only [go_sem,reduceCtorEq,Nat.reduceEqDiff,Nat.reduceAdd,Nat.reduceSub,Nat.reduceMul,Nat.reduceLeDiff,Int.reduceLT,Int.reduceLE,Int.reduceEq,↓reduceIte,Int.reduceNeg,Int.reduceAdd,Int.reduceSub,Int.reduceMul,true_imp_iff,forall_const,Nat.mul_one,Int.reduceToNat,Nat.reducePow,Int.reducePow,Bool.true_and,Bool.false_and,Bool.and_false]
  refine hQ.use ?_
  simp (disch:=first|assumption|omega|(simp only [List.length_append,List.length_cons,List.length_nil];omega)) only [go_sem,reduceCtorEq,Nat.reduceEqDiff,Nat.reduceAdd,Nat.reduceSub,Nat.reduceMul,Nat.reduceLeDiff,Int.reduceLT,Int.reduceLE,Int.reduceEq,↓reduceIte,Int.reduceNeg,Int.reduceAdd,Int.reduceSub,Int.reduceMul,true_imp_iff,forall_const,Nat.mul_one,Int.reduceToNat,Nat.reducePow,Int.reducePow,Bool.true_and,Bool.false_and,Bool.and_false]
  exact retC_by (by repeat' (first|exact Drop.refl _|with_reducible refine Drop.off ?_ (by assumption))) (.refl _) ⟨rfl,rfl⟩
theorem add_ok {a b:Int} (h:(a+b).natAbs<=9223372036854775807):Pure Tryz.prog 65 [.int .i64 a,.int .i64 b] (resAV (fitP (a+b))):=by
 intro σ
 have hM:=made_ok (decide (a+b<0)) (a+b).natAbs (by omega)
 rw [madeP_abs] at hM
 have hS:=size_ok (a+b) (by omega) (by omega)
 obtain ⟨c,hc⟩:∃ c,a+b=c:=⟨_,rfl⟩
 rw [hc] at hM hS h ⊢
 have hw:IntKind.i64.wrap (a+b)=c:=by rw [IntKind.wrap_i64];omega
 simp only [resAV] at hM ⊢
 refine a65 (by simp) ?_
 simp (disch:=first|assumption|omega|(simp only [List.length_append,List.length_cons,List.length_nil];omega)) only [go_sem,reduceCtorEq,Nat.reduceEqDiff,Nat.reduceAdd,Nat.reduceSub,Nat.reduceMul,Nat.reduceLeDiff,Int.reduceLT,Int.reduceLE,Int.reduceEq,↓reduceIte,Int.reduceNeg,Int.reduceAdd,Int.reduceSub,Int.reduceMul,true_imp_iff,forall_const,Nat.mul_one,Int.reduceToNat,Nat.reducePow,Int.reducePow,Bool.true_and,Bool.false_and,Bool.and_false,hc,hw]
 refine hS.use ?_
 simp (disch:=first|assumption|omega|(simp only [List.length_append,List.length_cons,List.length_nil];omega)) only [go_sem,reduceCtorEq,Nat.reduceEqDiff,Nat.reduceAdd,Nat.reduceSub,Nat.reduceMul,Nat.reduceLeDiff,Int.reduceLT,Int.reduceLE,Int.reduceEq,↓reduceIte,Int.reduceNeg,Int.reduceAdd,Int.reduceSub,Int.reduceMul,true_imp_iff,forall_const,Nat.mul_one,Int.reduceToNat,Nat.reducePow,Int.reducePow,Bool.true_and,Bool.false_and,Bool.and_false,hc,hw]
 refine hM.use ?_
 simp (disch:=first|assumption|omega|(simp only [List.length_append,List.length_cons,List.length_nil];omega)) only [go_sem,reduceCtorEq,Nat.reduceEqDiff,Nat.reduceAdd,Nat.reduceSub,Nat.reduceMul,Nat.reduceLeDiff,Int.reduceLT,Int.reduceLE,Int.reduceEq,↓reduceIte,Int.reduceNeg,Int.reduceAdd,Int.reduceSub,Int.reduceMul,true_imp_iff,forall_const,Nat.mul_one,Int.reduceToNat,Nat.reducePow,Int.reducePow,Bool.true_and,Bool.false_and,Bool.and_false]
 exact retC_by (by repeat' (first|exact Drop.refl _|with_reducible refine Drop.off ?_ (by assumption))) (.refl _) ⟨rfl,rfl⟩
theorem quoD_le {m:Bool} {n y:Nat} {r:Int} (h:quoD m n y=some r):r.natAbs<=999999999999999999:=by
 unfold quoD at h
 split at h
 ·rename_i h2
  injection h with h
  rw [<-h]
  split<;>omega
 ·cases h
def powN (a:Int):Nat->Option Int
 | 0=>some 10000
 | n+1=>(powN a n).bind fun p=>mulD p a
theorem powN_le {a:Int}:∀ {n:Nat} {p:Int},powN a n=some p->p.natAbs<=999999999999999999
 | 0,p,h=>by injection h with h;subst h;decide
 | n+1,p,h=>by
   obtain ⟨q,_,hq⟩:=Option.bind_eq_some_iff.1 h
   exact quoD_le hq
theorem powN_none {a:Int}:∀ {n m:Nat},powN a n=none->n<=m->powN a m=none
 | n,0,h,hm=>by
   obtain rfl:n=0:=by omega
   exact h
 | n,m+1,h,hm=>by
   by_cases he:n=m+1
   ·subst he;exact h
   ·have:=powN_none h (show n<=m by omega)
    rw [powN,this];rfl
def powD (a n:Int):Option Int:=if n < -1000\/1000<n then none else (powN a n.natAbs).bind fun p=>if n<0 then divD 10000 p else some p
set_option maxHeartbeats 1000000 in
theorem pow_ok (a n:Int) (ha:a.natAbs<=9223372036854775807):Pure Tryz.prog 63 [.int .i64 a,.int .i64 n] (resAV (powD a n)):=by
 intro σ
 unfold powD
 refine a63 (by simp) ?_
 by_cases h1:n < -1000
 ·rw [if_pos (.inl h1)]
  simp (disch:=first|assumption|omega|(simp only [List.length_append,List.length_cons,List.length_nil];omega)) only [go_sem,reduceCtorEq,Nat.reduceEqDiff,Nat.reduceAdd,Nat.reduceSub,Nat.reduceMul,Nat.reduceLeDiff,Int.reduceLT,Int.reduceLE,Int.reduceEq,↓reduceIte,Int.reduceNeg,Int.reduceAdd,Int.reduceSub,Int.reduceMul,true_imp_iff,forall_const,Nat.mul_one,Int.reduceToNat,Nat.reducePow,Int.reducePow,Bool.true_and,Bool.false_and,Bool.and_false,h1]
  exact retC_by (by repeat' (first|exact Drop.refl _|with_reducible refine Drop.off ?_ (by assumption))) (.refl _) ⟨rfl,rfl⟩
 by_cases h2:1000<n
 ·rw [if_pos (.inr h2)]
  simp (disch:=first|assumption|omega|(simp only [List.length_append,List.length_cons,List.length_nil];omega)) only [go_sem,reduceCtorEq,Nat.reduceEqDiff,Nat.reduceAdd,Nat.reduceSub,Nat.reduceMul,Nat.reduceLeDiff,Int.reduceLT,Int.reduceLE,Int.reduceEq,↓reduceIte,Int.reduceNeg,Int.reduceAdd,Int.reduceSub,Int.reduceMul,true_imp_iff,forall_const,Nat.mul_one,Int.reduceToNat,Nat.reducePow,Int.reducePow,Bool.true_and,Bool.false_and,Bool.and_false,h1,h2]
  exact retC_by (by repeat' (first|exact Drop.refl _|with_reducible refine Drop.off ?_ (by assumption))) (.refl _) ⟨rfl,rfl⟩
 rw [if_neg (by omega)]
 obtain ⟨m,hm⟩:∃ m,n.natAbs=m:=⟨_,rfl⟩
 have emx:max n (0-n)=m:=by omega
 have emx2:max (0-n) n=m:=by omega
 rw [hm]
 obtain ⟨F,hF⟩:∃ F,F=ACode.wp Tryz.prog c63_26:=⟨_,rfl⟩
 have fin:∀ (a1:AFr) (o:Option Int),powN a m=o->(a1 1 = .int .i64 n/\a1 6 = .int .i64 (o.getD 0)/\a1 7 = .bool o.isSome)->F (RetQ [.t 4,.t 5] fun v σ'=>v=resAV ((powN a m).bind fun p=>if n<0 then divD 10000 p else some p)/\σ'=σ) a1 σ:=by
  intro a1 o ho hf
  rw [hF,ho]
  cases o with
  | none=>
    simp only [Option.bind_none,resAV,Option.getD_none,Option.isSome_none] at hf ⊢
    simp (disch:=first|assumption|omega|(simp only [List.length_append,List.length_cons,List.length_nil];omega)) only [go_sem,reduceCtorEq,Nat.reduceEqDiff,Nat.reduceAdd,Nat.reduceSub,Nat.reduceMul,Nat.reduceLeDiff,Int.reduceLT,Int.reduceLE,Int.reduceEq,↓reduceIte,Int.reduceNeg,Int.reduceAdd,Int.reduceSub,Int.reduceMul,true_imp_iff,forall_const,Nat.mul_one,Int.reduceToNat,Nat.reducePow,Int.reducePow,Bool.true_and,Bool.false_and,Bool.and_false,hf]
    exact retC_by (by repeat' (first|exact Drop.refl _|with_reducible refine Drop.off ?_ (by assumption))) (.refl _) ⟨rfl,rfl⟩
  | some p=>
    simp only [Option.bind_some,Option.getD_some,Option.isSome_some] at hf ⊢
    by_cases hn:n<0
    ·rw [if_pos hn]
     have hp:=powN_le ho
     have hD:=div_ok 10000 p (by decide) (by omega)
     simp only [resAV] at hD ⊢
     generalize divD 10000 p=D at *
     simp (disch:=first|assumption|omega|(simp only [List.length_append,List.length_cons,List.length_nil];omega)) only [go_sem,reduceCtorEq,Nat.reduceEqDiff,Nat.reduceAdd,Nat.reduceSub,Nat.reduceMul,Nat.reduceLeDiff,Int.reduceLT,Int.reduceLE,Int.reduceEq,↓reduceIte,Int.reduceNeg,Int.reduceAdd,Int.reduceSub,Int.reduceMul,true_imp_iff,forall_const,Nat.mul_one,Int.reduceToNat,Nat.reducePow,Int.reducePow,Bool.true_and,Bool.false_and,Bool.and_false,hf,hn]
     refine hD.use ?_
     simp (disch:=first|assumption|omega|(simp only [List.length_append,List.length_cons,List.length_nil];omega)) only [go_sem,reduceCtorEq,Nat.reduceEqDiff,Nat.reduceAdd,Nat.reduceSub,Nat.reduceMul,Nat.reduceLeDiff,Int.reduceLT,Int.reduceLE,Int.reduceEq,↓reduceIte,Int.reduceNeg,Int.reduceAdd,Int.reduceSub,Int.reduceMul,true_imp_iff,forall_const,Nat.mul_one,Int.reduceToNat,Nat.reducePow,Int.reducePow,Bool.true_and,Bool.false_and,Bool.and_false]
     exact retC_by (by repeat' (first|exact Drop.refl _|with_reducible refine Drop.off ?_ (by assumption))) (.refl _) ⟨rfl,rfl⟩
    ·rw [if_neg hn]
     simp only [resAV,Option.getD_some,Option.isSome_some]
     simp (disch:=first|assumption|omega|(simp only [List.length_append,List.length_cons,List.length_nil];omega)) only [go_sem,reduceCtorEq,Nat.reduceEqDiff,Nat.reduceAdd,Nat.reduceSub,Nat.reduceMul,Nat.reduceLeDiff,Int.reduceLT,Int.reduceLE,Int.reduceEq,↓reduceIte,Int.reduceNeg,Int.reduceAdd,Int.reduceSub,Int.reduceMul,true_imp_iff,forall_const,Nat.mul_one,Int.reduceToNat,Nat.reducePow,Int.reducePow,Bool.true_and,Bool.false_and,Bool.and_false,hf,hn]
     exact retC_by (by repeat' (first|exact Drop.refl _|with_reducible refine Drop.off ?_ (by assumption))) (.refl _) ⟨rfl,rfl⟩
 simp (disch:=first|assumption|omega|(simp only [List.length_append,List.length_cons,List.length_nil];omega)) only [go_sem,reduceCtorEq,Nat.reduceEqDiff,Nat.reduceAdd,Nat.reduceSub,Nat.reduceMul,Nat.reduceLeDiff,Int.reduceLT,Int.reduceLE,Int.reduceEq,↓reduceIte,Int.reduceNeg,Int.reduceAdd,Int.reduceSub,Int.reduceMul,true_imp_iff,forall_const,Nat.mul_one,Int.reduceToNat,Nat.reducePow,Int.reducePow,Bool.true_and,Bool.false_and,Bool.and_false,h1,h2,←hF]
 refine wp_loop_on (fun (i:Nat) a1 s2=>i<=m/\(∃ o:Option Int,powN a i=o/\(a1 6 = .int .i64 (o.getD 0)/\a1 7 = .bool o.isSome))/\(a1 0 = .int .i64 a/\a1 1 = .int .i64 n/\a1 8 = .int .i64 i)/\s2=σ) (fun i=>m-i) 0 ⟨Nat.zero_le _,⟨some 10000,rfl,?_⟩,?_,rfl⟩ ?_
 ·simp (disch:=first|assumption|omega|(simp only [List.length_append,List.length_cons,List.length_nil];omega)) only [go_sem,reduceCtorEq,Nat.reduceEqDiff,Nat.reduceAdd,Nat.reduceSub,Nat.reduceMul,Nat.reduceLeDiff,Int.reduceLT,Int.reduceLE,Int.reduceEq,↓reduceIte,Int.reduceNeg,Int.reduceAdd,Int.reduceSub,Int.reduceMul,true_imp_iff,forall_const,Nat.mul_one,Int.reduceToNat,Nat.reducePow,Int.reducePow,Bool.true_and,Bool.false_and,Bool.and_false]
  rfl
 ·simp (disch:=first|assumption|omega|(simp only [List.length_append,List.length_cons,List.length_nil];omega)) only [go_sem,reduceCtorEq,Nat.reduceEqDiff,Nat.reduceAdd,Nat.reduceSub,Nat.reduceMul,Nat.reduceLeDiff,Int.reduceLT,Int.reduceLE,Int.reduceEq,↓reduceIte,Int.reduceNeg,Int.reduceAdd,Int.reduceSub,Int.reduceMul,true_imp_iff,forall_const,Nat.mul_one,Int.reduceToNat,Nat.reducePow,Int.reducePow,Bool.true_and,Bool.false_and,Bool.and_false]
 rintro i a1 s2 ⟨hi,⟨o,ho,hg⟩,hf,rfl⟩
 by_cases hlt:i<m
 ·have hlt':(i:Int)<m:=by omega
  cases o with
  | none=>
    have hnone:=powN_none ho (Nat.le_of_lt hlt)
    simp only [Option.getD_none,Option.isSome_none] at hg
    simp (disch:=first|assumption|omega|(simp only [List.length_append,List.length_cons,List.length_nil];omega)) only [go_sem,reduceCtorEq,Nat.reduceEqDiff,Nat.reduceAdd,Nat.reduceSub,Nat.reduceMul,Nat.reduceLeDiff,Int.reduceLT,Int.reduceLE,Int.reduceEq,↓reduceIte,Int.reduceNeg,Int.reduceAdd,Int.reduceSub,Int.reduceMul,true_imp_iff,forall_const,Nat.mul_one,Int.reduceToNat,Nat.reducePow,Int.reducePow,Bool.true_and,Bool.false_and,Bool.and_false,hf,hg,emx,emx2,hlt',←hF]
    refine fin _ none hnone ?_
    simp only [Option.getD_none,Option.isSome_none]
    simp (disch:=first|assumption|omega|(simp only [List.length_append,List.length_cons,List.length_nil];omega)) only [go_sem,reduceCtorEq,Nat.reduceEqDiff,Nat.reduceAdd,Nat.reduceSub,Nat.reduceMul,Nat.reduceLeDiff,Int.reduceLT,Int.reduceLE,Int.reduceEq,↓reduceIte,Int.reduceNeg,Int.reduceAdd,Int.reduceSub,Int.reduceMul,true_imp_iff,forall_const,Nat.mul_one,Int.reduceToNat,Nat.reducePow,Int.reducePow,Bool.true_and,Bool.false_and,Bool.and_false,hf,hg]
  | some p=>
    have hp:=powN_le ho
    have hM:=mul_ok p a (by omega) ha
    have hs:powN a (i+1)=mulD p a:=by rw [powN,ho];rfl
    simp only [Option.getD_some,Option.isSome_some] at hg
    simp only [resAV] at hM
    generalize mulD p a=D at *
    simp (disch:=first|assumption|omega|(simp only [List.length_append,List.length_cons,List.length_nil];omega)) only [go_sem,reduceCtorEq,Nat.reduceEqDiff,Nat.reduceAdd,Nat.reduceSub,Nat.reduceMul,Nat.reduceLeDiff,Int.reduceLT,Int.reduceLE,Int.reduceEq,↓reduceIte,Int.reduceNeg,Int.reduceAdd,Int.reduceSub,Int.reduceMul,true_imp_iff,forall_const,Nat.mul_one,Int.reduceToNat,Nat.reducePow,Int.reducePow,Bool.true_and,Bool.false_and,Bool.and_false,hf,hg,emx,emx2,hlt',←hF]
    refine hM.use ?_
    simp (disch:=first|assumption|omega|(simp only [List.length_append,List.length_cons,List.length_nil];omega)) only [go_sem,reduceCtorEq,Nat.reduceEqDiff,Nat.reduceAdd,Nat.reduceSub,Nat.reduceMul,Nat.reduceLeDiff,Int.reduceLT,Int.reduceLE,Int.reduceEq,↓reduceIte,Int.reduceNeg,Int.reduceAdd,Int.reduceSub,Int.reduceMul,true_imp_iff,forall_const,Nat.mul_one,Int.reduceToNat,Nat.reducePow,Int.reducePow,Bool.true_and,Bool.false_and,Bool.and_false,hf,hg,←hF]
    exact ⟨i+1,by omega,by omega,⟨D,hs,rfl,rfl⟩,rfl⟩
 ·have hlt':¬ (i:Int)<m:=by omega
  obtain rfl:i=m:=by omega
  simp (disch:=first|assumption|omega|(simp only [List.length_append,List.length_cons,List.length_nil];omega)) only [go_sem,reduceCtorEq,Nat.reduceEqDiff,Nat.reduceAdd,Nat.reduceSub,Nat.reduceMul,Nat.reduceLeDiff,Int.reduceLT,Int.reduceLE,Int.reduceEq,↓reduceIte,Int.reduceNeg,Int.reduceAdd,Int.reduceSub,Int.reduceMul,true_imp_iff,forall_const,Nat.mul_one,Int.reduceToNat,Nat.reducePow,Int.reducePow,Bool.true_and,Bool.false_and,Bool.and_false,hf,hg,emx,emx2,hlt',←hF]
  refine fin _ o ho ?_
  simp (disch:=first|assumption|omega|(simp only [List.length_append,List.length_cons,List.length_nil];omega)) only [go_sem,reduceCtorEq,Nat.reduceEqDiff,Nat.reduceAdd,Nat.reduceSub,Nat.reduceMul,Nat.reduceLeDiff,Int.reduceLT,Int.reduceLE,Int.reduceEq,↓reduceIte,Int.reduceNeg,Int.reduceAdd,Int.reduceSub,Int.reduceMul,true_imp_iff,forall_const,Nat.mul_one,Int.reduceToNat,Nat.reducePow,Int.reducePow,Bool.true_and,Bool.false_and,Bool.and_false,hf,hg]
end Go.A
namespace Go.A
def sgnP (a b:Int):Bool := !(decide (a<0)==decide (b<0))
def mulR (a b:Int):Option Int:=madeP (sgnP a b) ((a.natAbs*b.natAbs+5000) / 10000)
theorem quoW_10k {n:Nat} (h:¬ (184467440737095516155000<=n/\n<184467440737095516160000)) (h1:n<184467440737095516160000):quoW n 10000=(n+5000) / 10000:=by
 unfold quoW
 by_cases h2:10000-n % 10000<=n % 10000
 ·rw [if_pos h2,Nat.mod_eq_of_lt (by omega)];omega
 ·rw [if_neg h2];omega
theorem mul_same {a b:Int} (h:¬ (184467440737095516155000<=a.natAbs*b.natAbs/\a.natAbs*b.natAbs<184467440737095516160000)):mulD a b=mulR a b:=by
 unfold mulD mulR quoD madeP sgnP
 generalize a.natAbs*b.natAbs=n at *
 by_cases h1:n<184467440737095516160000
 ·rw [quoW_10k h h1]
  have h2:n / 18446744073709551616<10000:=by omega
  by_cases h3:(n+5000) / 10000<=999999999999999999
  ·rw [if_pos ⟨h2,h3⟩,if_pos h3]
  ·rw [if_neg (fun h=>h3 h.2),if_neg h3]
 ·rw [if_neg (fun h=>by omega),if_neg (by omega)]
def powR (a:Int):Nat->Option Int
 | 0=>some 10000
 | n+1=>(powR a n).bind fun p=>mulR p a
theorem madeP_some {m:Bool} {n:Nat} {r:Int} (h:madeP m n=some r):n<=999999999999999999/\r.natAbs=n:=by
 unfold madeP at h
 split at h
 ·injection h with h
  rw [<-h]
  split<;>omega
 ·cases h
theorem powR_abs {a:Int}:∀ {k:Nat} {p:Int},powR a k=some p->p.natAbs=pwN a.natAbs k
 | 0,p,h=>by injection h with h;rw [<-h];rfl
 | k+1,p,h=>by
   obtain ⟨q,h1,h2⟩:=Option.bind_eq_some_iff.1 h
   obtain ⟨h3,h4⟩:=madeP_some h2
   have h5:=powR_abs h1
   rw [pwN_succ,← h5,h4]
   unfold pwStep
   dsimp only
   rw [if_neg (by omega)]
theorem pow_same (a:Int):∀ {k:Nat},k<=1000->powN a k=powR a k
 | 0,_=>rfl
 | k+1,hk=>by
   rw [powN,powR,pow_same a (show k<=1000 by omega)]
   cases h:powR a k with
   | none=>rfl
   | some p=>
     rw [Option.bind_some,Option.bind_some]
     refine mul_same ?_
     rw [powR_abs h]
     exact pw_free (by omega)
theorem mul_whole {a b:Int} (h:b.natAbs % 10000=0):mulD a b=mulR a b:=by
 refine mul_same ?_
 have h2:(a.natAbs*b.natAbs) % 10000=0:=by rw [Nat.mul_mod,h,Nat.mul_zero]
 omega
def divR (a b:Int):Option Int:=madeP (sgnP a b) ((2*(a.natAbs*10000)+b.natAbs) / (2*b.natAbs))
theorem div_same {a b:Int} (ha:a.natAbs<=10000) (hb:b≠0):divD a b=divR a b:=by
 have hb0:0<b.natAbs:=by omega
 unfold divD divR quoD madeP sgnP
 rw [if_neg hb,← half_up hb0]
 have hn:a.natAbs*10000<=100000000:=by omega
 generalize a.natAbs*10000=n at *
 generalize b.natAbs=y at *
 have hq:n / y<=n:=Nat.div_le_self n y
 have hw:quoW n y=if y-n % y<=n % y then n / y+1 else n / y:=by
  unfold quoW
  by_cases h:y-n % y<=n % y
  ·rw [if_pos h,if_pos h,Nat.mod_eq_of_lt (by omega)]
  ·rw [if_neg h,if_neg h]
 rw [hw]
 have h1:n / 18446744073709551616<y:=by omega
 have h2:(if y-n % y<=n % y then n / y+1 else n / y)<=999999999999999999:=by split<;>omega
 rw [if_pos ⟨h1,h2⟩,if_pos h2]
end Go.A
namespace Go.A
open Go.Proofs
theorem rsize_ok (a:Int) (h:a.natAbs<=999999999999999999):Pure Tryz.prog 41 [.int .i64 a] (.int .u64 (a.natAbs:Nat)):=by
 intro σ
 refine a41 (by simp) ?_
 by_cases h0:a<0
 ·have e:IntKind.u64.wrap (0-(a+1))=0-(a+1):=by rw [IntKind.wrap_u64];omega
  have e2:0-(a+1)+1=((a.natAbs:Nat):Int):=by omega
  simp (disch:=first|assumption|omega|(simp only [List.length_append,List.length_cons,List.length_nil];omega)) only [go_sem,reduceCtorEq,Nat.reduceEqDiff,Nat.reduceAdd,Nat.reduceSub,Nat.reduceMul,Nat.reduceLeDiff,Int.reduceLT,Int.reduceLE,Int.reduceEq,↓reduceIte,Int.reduceNeg,Int.reduceAdd,Int.reduceSub,Int.reduceMul,true_imp_iff,forall_const,Nat.mul_one,Int.reduceToNat,Nat.reducePow,Int.reducePow,Bool.true_and,Bool.false_and,Bool.and_false,h0,e,e2]
  exact retC_by (by repeat' (first|exact Drop.refl _|with_reducible refine Drop.off ?_ (by assumption))) (.refl _) ⟨rfl,rfl⟩
 ·have e:IntKind.u64.wrap a=((a.natAbs:Nat):Int):=by rw [IntKind.wrap_u64];omega
  simp (disch:=first|assumption|omega|(simp only [List.length_append,List.length_cons,List.length_nil];omega)) only [go_sem,reduceCtorEq,Nat.reduceEqDiff,Nat.reduceAdd,Nat.reduceSub,Nat.reduceMul,Nat.reduceLeDiff,Int.reduceLT,Int.reduceLE,Int.reduceEq,↓reduceIte,Int.reduceNeg,Int.reduceAdd,Int.reduceSub,Int.reduceMul,true_imp_iff,forall_const,Nat.mul_one,Int.reduceToNat,Nat.reducePow,Int.reducePow,Bool.true_and,Bool.false_and,Bool.and_false,h0,e]
  exact retC_by (by repeat' (first|exact Drop.refl _|with_reducible refine Drop.off ?_ (by assumption))) (.refl _) ⟨rfl,rfl⟩
theorem allD_zeros (k:Nat):AllD (List.replicate k 48):=by
 intro c hc
 obtain ⟨_,rfl⟩:=List.mem_replicate.1 hc
 decide
theorem allD_app {l m:List UInt8} (h:AllD l) (k:AllD m):AllD (l++m):=fun c hc=>(List.mem_append.1 hc).elim (h c) (k c)
theorem allD_strip {l:List UInt8} (h:AllD l):AllD (stripP l):=fun c hc=>h c ((List.dropWhile_sublist _).subset hc)
theorem inc_len (s:List UInt8):(incP s).length<=s.length+1:=by
 unfold incP
 have:=incC_len s
 split<;>simp<;>omega
theorem cutD_len (s:List UInt8) (n:Nat):(cutD s n).length<=s.length+n+2:=by
 have hp:(padP s n).length<=s.length+n+1:=by unfold padP;simp;omega
 unfold cutD
 split
 ·omega
 ·split
  ·have:=inc_len ((padP s n).take ((padP s n).length-n))
   simp at this ⊢
   omega
  ·simp;omega
set_option maxHeartbeats 1000000 in
theorem rround_ok {a p:Int} (ha:a.natAbs<=999999999999999999) (h0 : -14<=p) (h1:p<4):Pure Tryz.prog 45 [.int .i64 a,.int .i64 p] (resAV (roundP a (10 ^ (4-p).toNat))):=by
 intro σ
 obtain ⟨k,hk⟩:∃ k:Nat,(4-p).toNat=k:=⟨_,rfl⟩
 have e4:(4:Int)-p=k:=by omega
 have hk0:0<k:=by omega
 have hk18:k<=18:=by omega
 rw [hk]
 have hdl:(Lib.decDigits a.natAbs).length<=18:=dd_len 17 _ (by omega)
 have hdD:AllD (Lib.decDigits a.natAbs):=(dd_all _).1
 obtain ⟨c1,c2⟩:=cut_law hdD hk0
 rw [nv_dd] at c2
 have hcl:=cutD_len (Lib.decDigits a.natAbs) k
 have hS:=rsize_ok a ha
 have hD:=rdigits_ok a.natAbs (by omega)
 have hC:=rcut_ok (Lib.decDigits a.natAbs) k (by omega) (by omega)
 generalize cutD (Lib.decDigits a.natAbs) k=X at *
 have hfin:roundP a (10 ^ k)=valP (decide (a<0)) (stripP (X++List.replicate k 48)):=by
  unfold valP roundP
  rw [nv_strip,nv_app,nv_zeros,List.length_replicate,Nat.add_zero,c2]
 have hV:=value_ok (decide (a<0)) (stripP (X++List.replicate k 48)) (allD_strip (allD_app c1 (allD_zeros k))) (by
  have:=(List.dropWhile_sublist (p:=(· == 48)) (l:=X++List.replicate k 48)).length_le
  unfold stripP
  simp at this ⊢
  omega)
 have hT:=strip_ok (X++List.replicate k 48) (by simp;omega)
 rw [hfin]
 generalize valP (decide (a<0)) (stripP (X++List.replicate k 48))=V at *
 have g1:¬ (4:Int)<=p:=by omega
 have g2:¬ p < -14:=by omega
 simp only [resAV] at hV ⊢
 refine a45 (by simp) ?_
 simp (disch:=first|assumption|omega|(simp only [List.length_append,List.length_cons,List.length_nil];omega)) only [go_sem,reduceCtorEq,Nat.reduceEqDiff,Nat.reduceAdd,Nat.reduceSub,Nat.reduceMul,Nat.reduceLeDiff,Int.reduceLT,Int.reduceLE,Int.reduceEq,↓reduceIte,Int.reduceNeg,Int.reduceAdd,Int.reduceSub,Int.reduceMul,true_imp_iff,forall_const,Nat.mul_one,Int.reduceToNat,Nat.reducePow,Int.reducePow,Bool.true_and,Bool.false_and,Bool.and_false,g1,g2]
 refine hS.use ?_
 simp (disch:=first|assumption|omega|(simp only [List.length_append,List.length_cons,List.length_nil];omega)) only [go_sem,reduceCtorEq,Nat.reduceEqDiff,Nat.reduceAdd,Nat.reduceSub,Nat.reduceMul,Nat.reduceLeDiff,Int.reduceLT,Int.reduceLE,Int.reduceEq,↓reduceIte,Int.reduceNeg,Int.reduceAdd,Int.reduceSub,Int.reduceMul,true_imp_iff,forall_const,Nat.mul_one,Int.reduceToNat,Nat.reducePow,Int.reducePow,Bool.true_and,Bool.false_and,Bool.and_false]
 refine hD.use ?_
 simp (disch:=first|assumption|omega|(simp only [List.length_append,List.length_cons,List.length_nil];omega)) only [go_sem,reduceCtorEq,Nat.reduceEqDiff,Nat.reduceAdd,Nat.reduceSub,Nat.reduceMul,Nat.reduceLeDiff,Int.reduceLT,Int.reduceLE,Int.reduceEq,↓reduceIte,Int.reduceNeg,Int.reduceAdd,Int.reduceSub,Int.reduceMul,true_imp_iff,forall_const,Nat.mul_one,Int.reduceToNat,Nat.reducePow,Int.reducePow,Bool.true_and,Bool.false_and,Bool.and_false,e4]
 refine hC.use ?_
 simp (disch:=first|assumption|omega|(simp only [List.length_append,List.length_cons,List.length_nil];omega)) only [go_sem,reduceCtorEq,Nat.reduceEqDiff,Nat.reduceAdd,Nat.reduceSub,Nat.reduceMul,Nat.reduceLeDiff,Int.reduceLT,Int.reduceLE,Int.reduceEq,↓reduceIte,Int.reduceNeg,Int.reduceAdd,Int.reduceSub,Int.reduceMul,true_imp_iff,forall_const,Nat.mul_one,Int.reduceToNat,Nat.reducePow,Int.reducePow,Bool.true_and,Bool.false_and,Bool.and_false]
 refine wp_loop_on (fun (j:Nat) a1 s2=>j<=k/\(a1 0 = .int .i64 a/\a1 6 = .str (X++List.replicate j 48)/\a1 7 = .int .i64 (p+j))/\s2=σ) (fun j=>k-j) 0 ⟨Nat.zero_le _,?_,rfl⟩ ?_
 ·simp (disch:=first|assumption|omega|(simp only [List.length_append,List.length_cons,List.length_nil];omega)) only [go_sem,reduceCtorEq,Nat.reduceEqDiff,Nat.reduceAdd,Nat.reduceSub,Nat.reduceMul,Nat.reduceLeDiff,Int.reduceLT,Int.reduceLE,Int.reduceEq,↓reduceIte,Int.reduceNeg,Int.reduceAdd,Int.reduceSub,Int.reduceMul,true_imp_iff,forall_const,Nat.mul_one,Int.reduceToNat,Nat.reducePow,Int.reducePow,Bool.true_and,Bool.false_and,Bool.and_false]
  simp
 rintro j a1 s2 ⟨hj,hf,rfl⟩
 by_cases hlt:j<k
 ·have g3:p+(j:Int)<4:=by omega
  have e1:binS .add (X++List.replicate j 48) [48]=some (.str (X++List.replicate (j+1) 48)):=by
   rw [binS_add (by simp;omega),List.replicate_succ',List.append_assoc]
  simp (disch:=first|assumption|omega|(simp only [List.length_append,List.length_cons,List.length_nil];omega)) only [go_sem,reduceCtorEq,Nat.reduceEqDiff,Nat.reduceAdd,Nat.reduceSub,Nat.reduceMul,Nat.reduceLeDiff,Int.reduceLT,Int.reduceLE,Int.reduceEq,↓reduceIte,Int.reduceNeg,Int.reduceAdd,Int.reduceSub,Int.reduceMul,true_imp_iff,forall_const,Nat.mul_one,Int.reduceToNat,Nat.reducePow,Int.reducePow,Bool.true_and,Bool.false_and,Bool.and_false,hf,g3,e1]
  exact ⟨j+1,by omega,by omega,by rw [Int.natCast_add,← Int.add_assoc];exact ⟨rfl,rfl⟩⟩
 ·have g3:¬ p+(j:Int)<4:=by omega
  obtain rfl:j=k:=by omega
  simp (disch:=first|assumption|omega|(simp only [List.length_append,List.length_cons,List.length_nil];omega)) only [go_sem,reduceCtorEq,Nat.reduceEqDiff,Nat.reduceAdd,Nat.reduceSub,Nat.reduceMul,Nat.reduceLeDiff,Int.reduceLT,Int.reduceLE,Int.reduceEq,↓reduceIte,Int.reduceNeg,Int.reduceAdd,Int.reduceSub,Int.reduceMul,true_imp_iff,forall_const,Nat.mul_one,Int.reduceToNat,Nat.reducePow,Int.reducePow,Bool.true_and,Bool.false_and,Bool.and_false,hf,g3]
  refine hT.use ?_
  simp (disch:=first|assumption|omega|(simp only [List.length_append,List.length_cons,List.length_nil];omega)) only [go_sem,reduceCtorEq,Nat.reduceEqDiff,Nat.reduceAdd,Nat.reduceSub,Nat.reduceMul,Nat.reduceLeDiff,Int.reduceLT,Int.reduceLE,Int.reduceEq,↓reduceIte,Int.reduceNeg,Int.reduceAdd,Int.reduceSub,Int.reduceMul,true_imp_iff,forall_const,Nat.mul_one,Int.reduceToNat,Nat.reducePow,Int.reducePow,Bool.true_and,Bool.false_and,Bool.and_false,hf]
  refine hV.use ?_
  simp (disch:=first|assumption|omega|(simp only [List.length_append,List.length_cons,List.length_nil];omega)) only [go_sem,reduceCtorEq,Nat.reduceEqDiff,Nat.reduceAdd,Nat.reduceSub,Nat.reduceMul,Nat.reduceLeDiff,Int.reduceLT,Int.reduceLE,Int.reduceEq,↓reduceIte,Int.reduceNeg,Int.reduceAdd,Int.reduceSub,Int.reduceMul,true_imp_iff,forall_const,Nat.mul_one,Int.reduceToNat,Nat.reducePow,Int.reducePow,Bool.true_and,Bool.false_and,Bool.and_false]
  exact retC_by (by repeat' (first|exact Drop.refl _|with_reducible refine Drop.off ?_ (by assumption))) (.refl _) ⟨rfl,rfl⟩
end Go.A
namespace Go.A
open Go.Proofs
theorem dsign_ok (a:Int):Pure Tryz.prog 19 [.int .i64 a] (.int .i64 (if a<0 then -1 else if 0<a then 1 else 0)):=by
 intro σ
 refine a19 (by simp) ?_
 by_cases h0:a<0
 ·rw [if_pos h0]
  simp (disch:=first|assumption|omega|(simp only [List.length_append,List.length_cons,List.length_nil];omega)) only [go_sem,reduceCtorEq,Nat.reduceEqDiff,Nat.reduceAdd,Nat.reduceSub,Nat.reduceMul,Nat.reduceLeDiff,Int.reduceLT,Int.reduceLE,Int.reduceEq,↓reduceIte,Int.reduceNeg,Int.reduceAdd,Int.reduceSub,Int.reduceMul,true_imp_iff,forall_const,Nat.mul_one,Int.reduceToNat,Nat.reducePow,Int.reducePow,Bool.true_and,Bool.false_and,Bool.and_false,h0]
  exact retC_by (by repeat' (first|exact Drop.refl _|with_reducible refine Drop.off ?_ (by assumption))) (.refl _) ⟨rfl,rfl⟩
 ·rw [if_neg h0]
  by_cases h1:0<a
  ·rw [if_pos h1]
   simp (disch:=first|assumption|omega|(simp only [List.length_append,List.length_cons,List.length_nil];omega)) only [go_sem,reduceCtorEq,Nat.reduceEqDiff,Nat.reduceAdd,Nat.reduceSub,Nat.reduceMul,Nat.reduceLeDiff,Int.reduceLT,Int.reduceLE,Int.reduceEq,↓reduceIte,Int.reduceNeg,Int.reduceAdd,Int.reduceSub,Int.reduceMul,true_imp_iff,forall_const,Nat.mul_one,Int.reduceToNat,Nat.reducePow,Int.reducePow,Bool.true_and,Bool.false_and,Bool.and_false,h0,h1]
   exact retC_by (by repeat' (first|exact Drop.refl _|with_reducible refine Drop.off ?_ (by assumption))) (.refl _) ⟨rfl,rfl⟩
  ·rw [if_neg h1]
   simp (disch:=first|assumption|omega|(simp only [List.length_append,List.length_cons,List.length_nil];omega)) only [go_sem,reduceCtorEq,Nat.reduceEqDiff,Nat.reduceAdd,Nat.reduceSub,Nat.reduceMul,Nat.reduceLeDiff,Int.reduceLT,Int.reduceLE,Int.reduceEq,↓reduceIte,Int.reduceNeg,Int.reduceAdd,Int.reduceSub,Int.reduceMul,true_imp_iff,forall_const,Nat.mul_one,Int.reduceToNat,Nat.reducePow,Int.reducePow,Bool.true_and,Bool.false_and,Bool.and_false,h0,h1]
   exact retC_by (by repeat' (first|exact Drop.refl _|with_reducible refine Drop.off ?_ (by assumption))) (.refl _) ⟨rfl,rfl⟩
theorem fit_ok (a:Int):Pure Tryz.prog 77 [.int .i64 a] (resAV (fitP a)):=by
 intro σ
 refine a77 (by simp) ?_
 unfold fitP
 by_cases h0:999999999999999999<a
 ·rw [if_neg (by omega)]
  simp (disch:=first|assumption|omega|(simp only [List.length_append,List.length_cons,List.length_nil];omega)) only [go_sem,reduceCtorEq,Nat.reduceEqDiff,Nat.reduceAdd,Nat.reduceSub,Nat.reduceMul,Nat.reduceLeDiff,Int.reduceLT,Int.reduceLE,Int.reduceEq,↓reduceIte,Int.reduceNeg,Int.reduceAdd,Int.reduceSub,Int.reduceMul,true_imp_iff,forall_const,Nat.mul_one,Int.reduceToNat,Nat.reducePow,Int.reducePow,Bool.true_and,Bool.false_and,Bool.and_false,h0]
  exact retC_by (by repeat' (first|exact Drop.refl _|with_reducible refine Drop.off ?_ (by assumption))) (.refl _) ⟨rfl,rfl⟩
 ·by_cases h1:a < -999999999999999999
  ·rw [if_neg (by omega)]
   simp (disch:=first|assumption|omega|(simp only [List.length_append,List.length_cons,List.length_nil];omega)) only [go_sem,reduceCtorEq,Nat.reduceEqDiff,Nat.reduceAdd,Nat.reduceSub,Nat.reduceMul,Nat.reduceLeDiff,Int.reduceLT,Int.reduceLE,Int.reduceEq,↓reduceIte,Int.reduceNeg,Int.reduceAdd,Int.reduceSub,Int.reduceMul,true_imp_iff,forall_const,Nat.mul_one,Int.reduceToNat,Nat.reducePow,Int.reducePow,Bool.true_and,Bool.false_and,Bool.and_false,h0,h1]
   exact retC_by (by repeat' (first|exact Drop.refl _|with_reducible refine Drop.off ?_ (by assumption))) (.refl _) ⟨rfl,rfl⟩
  ·rw [if_pos (by omega)]
   simp (disch:=first|assumption|omega|(simp only [List.length_append,List.length_cons,List.length_nil];omega)) only [go_sem,reduceCtorEq,Nat.reduceEqDiff,Nat.reduceAdd,Nat.reduceSub,Nat.reduceMul,Nat.reduceLeDiff,Int.reduceLT,Int.reduceLE,Int.reduceEq,↓reduceIte,Int.reduceNeg,Int.reduceAdd,Int.reduceSub,Int.reduceMul,true_imp_iff,forall_const,Nat.mul_one,Int.reduceToNat,Nat.reducePow,Int.reducePow,Bool.true_and,Bool.false_and,Bool.and_false,h0,h1]
   exact retC_by (by repeat' (first|exact Drop.refl _|with_reducible refine Drop.off ?_ (by assumption))) (.refl _) ⟨rfl,rfl⟩
end Go.A
namespace Go.A
open Go.Proofs
theorem rround_hi {a p:Int} (h:4<=p):Pure Tryz.prog 45 [.int .i64 a,.int .i64 p] (resAV (some a)):=by
 intro σ
 refine a45 (by simp) ?_
 simp (disch:=first|assumption|omega|(simp only [List.length_append,List.length_cons,List.length_nil];omega)) only [go_sem,reduceCtorEq,Nat.reduceEqDiff,Nat.reduceAdd,Nat.reduceSub,Nat.reduceMul,Nat.reduceLeDiff,Int.reduceLT,Int.reduceLE,Int.reduceEq,↓reduceIte,Int.reduceNeg,Int.reduceAdd,Int.reduceSub,Int.reduceMul,true_imp_iff,forall_const,Nat.mul_one,Int.reduceToNat,Nat.reducePow,Int.reducePow,Bool.true_and,Bool.false_and,Bool.and_false,h]
 exact retC_by (by repeat' (first|exact Drop.refl _|with_reducible refine Drop.off ?_ (by assumption))) (.refl _) ⟨rfl,rfl⟩
theorem rround_lo {a p:Int} (h:p < -14):Pure Tryz.prog 45 [.int .i64 a,.int .i64 p] (resAV (some 0)):=by
 intro σ
 have g1:¬ (4:Int)<=p:=by omega
 refine a45 (by simp) ?_
 simp (disch:=first|assumption|omega|(simp only [List.length_append,List.length_cons,List.length_nil];omega)) only [go_sem,reduceCtorEq,Nat.reduceEqDiff,Nat.reduceAdd,Nat.reduceSub,Nat.reduceMul,Nat.reduceLeDiff,Int.reduceLT,Int.reduceLE,Int.reduceEq,↓reduceIte,Int.reduceNeg,Int.reduceAdd,Int.reduceSub,Int.reduceMul,true_imp_iff,forall_const,Nat.mul_one,Int.reduceToNat,Nat.reducePow,Int.reducePow,Bool.true_and,Bool.false_and,Bool.and_false,h,g1]
 exact retC_by (by repeat' (first|exact Drop.refl _|with_reducible refine Drop.off ?_ (by assumption))) (.refl _) ⟨rfl,rfl⟩
theorem round_lo {a p:Int} (h:p < -14):Pure Tryz.prog 24 [.int .i64 a,.int .i64 p] (resAV (some 0)):=by
 intro σ
 refine a24 (by simp) ?_
 simp (disch:=first|assumption|omega|(simp only [List.length_append,List.length_cons,List.length_nil];omega)) only [go_sem,reduceCtorEq,Nat.reduceEqDiff,Nat.reduceAdd,Nat.reduceSub,Nat.reduceMul,Nat.reduceLeDiff,Int.reduceLT,Int.reduceLE,Int.reduceEq,↓reduceIte,Int.reduceNeg,Int.reduceAdd,Int.reduceSub,Int.reduceMul,true_imp_iff,forall_const,Nat.mul_one,Int.reduceToNat,Nat.reducePow,Int.reducePow,Bool.true_and,Bool.false_and,Bool.and_false,h]
 exact retC_by (by repeat' (first|exact Drop.refl _|with_reducible refine Drop.off ?_ (by assumption))) (.refl _) ⟨rfl,rfl⟩
end Go.A
namespace Go.A
open Go.Proofs
theorem rtrunc_hi {a p:Int} (h:4<=p):Pure Tryz.prog 44 [.int .i64 a,.int .i64 p] (.int .i64 a):=by
 intro σ
 refine a44 (by simp) ?_
 simp (disch:=first|assumption|omega|(simp only [List.length_append,List.length_cons,List.length_nil];omega)) only [go_sem,reduceCtorEq,Nat.reduceEqDiff,Nat.reduceAdd,Nat.reduceSub,Nat.reduceMul,Nat.reduceLeDiff,Int.reduceLT,Int.reduceLE,Int.reduceEq,↓reduceIte,Int.reduceNeg,Int.reduceAdd,Int.reduceSub,Int.reduceMul,true_imp_iff,forall_const,Nat.mul_one,Int.reduceToNat,Nat.reducePow,Int.reducePow,Bool.true_and,Bool.false_and,Bool.and_false,h]
 exact retC_by (by repeat' (first|exact Drop.refl _|with_reducible refine Drop.off ?_ (by assumption))) (.refl _) ⟨rfl,rfl⟩
theorem rtrunc_lo {a p:Int} (h:p < -14):Pure Tryz.prog 44 [.int .i64 a,.int .i64 p] (.int .i64 0):=by
 intro σ
 have g1:¬ (4:Int)<=p:=by omega
 refine a44 (by simp) ?_
 simp (disch:=first|assumption|omega|(simp only [List.length_append,List.length_cons,List.length_nil];omega)) only [go_sem,reduceCtorEq,Nat.reduceEqDiff,Nat.reduceAdd,Nat.reduceSub,Nat.reduceMul,Nat.reduceLeDiff,Int.reduceLT,Int.reduceLE,Int.reduceEq,↓reduceIte,Int.reduceNeg,Int.reduceAdd,Int.reduceSub,Int.reduceMul,true_imp_iff,forall_const,Nat.mul_one,Int.reduceToNat,Nat.reducePow,Int.reducePow,Bool.true_and,Bool.false_and,Bool.and_false,h,g1]
 exact retC_by (by repeat' (first|exact Drop.refl _|with_reducible refine Drop.off ?_ (by assumption))) (.refl _) ⟨rfl,rfl⟩
theorem trunc_lo {a p:Int} (h:p < -14):Pure Tryz.prog 22 [.int .i64 a,.int .i64 p] (.int .i64 0):=by
 intro σ
 refine a22 (by simp) ?_
 simp (disch:=first|assumption|omega|(simp only [List.length_append,List.length_cons,List.length_nil];omega)) only [go_sem,reduceCtorEq,Nat.reduceEqDiff,Nat.reduceAdd,Nat.reduceSub,Nat.reduceMul,Nat.reduceLeDiff,Int.reduceLT,Int.reduceLE,Int.reduceEq,↓reduceIte,Int.reduceNeg,Int.reduceAdd,Int.reduceSub,Int.reduceMul,true_imp_iff,forall_const,Nat.mul_one,Int.reduceToNat,Nat.reducePow,Int.reducePow,Bool.true_and,Bool.false_and,Bool.and_false,h]
 exact retC_by (by repeat' (first|exact Drop.refl _|with_reducible refine Drop.off ?_ (by assumption))) (.refl _) ⟨rfl,rfl⟩
theorem trunc_hi {a p:Int} (h:4<=p):Pure Tryz.prog 22 [.int .i64 a,.int .i64 p] (.int .i64 a):=by
 intro σ
 have g1:¬ p < -14:=by omega
 refine a22 (by simp) ?_
 simp (disch:=first|assumption|omega|(simp only [List.length_append,List.length_cons,List.length_nil];omega)) only [go_sem,reduceCtorEq,Nat.reduceEqDiff,Nat.reduceAdd,Nat.reduceSub,Nat.reduceMul,Nat.reduceLeDiff,Int.reduceLT,Int.reduceLE,Int.reduceEq,↓reduceIte,Int.reduceNeg,Int.reduceAdd,Int.reduceSub,Int.reduceMul,true_imp_iff,forall_const,Nat.mul_one,Int.reduceToNat,Nat.reducePow,Int.reducePow,Bool.true_and,Bool.false_and,Bool.and_false,g1]
 refine (unit_no h).use ?_
 simp (disch:=first|assumption|omega|(simp only [List.length_append,List.length_cons,List.length_nil];omega)) only [go_sem,reduceCtorEq,Nat.reduceEqDiff,Nat.reduceAdd,Nat.reduceSub,Nat.reduceMul,Nat.reduceLeDiff,Int.reduceLT,Int.reduceLE,Int.reduceEq,↓reduceIte,Int.reduceNeg,Int.reduceAdd,Int.reduceSub,Int.reduceMul,true_imp_iff,forall_const,Nat.mul_one,Int.reduceToNat,Nat.reducePow,Int.reducePow,Bool.true_and,Bool.false_and,Bool.and_false]
 exact retC_by (by repeat' (first|exact Drop.refl _|with_reducible refine Drop.off ?_ (by assumption))) (.refl _) ⟨rfl,rfl⟩
def truncP (a:Int) (u:Nat):Int:=a-a.tmod u
theorem trunc_ok {σ:ASt} (hT:Tens σ) {a p:Int} (ha:a.natAbs<=999999999999999999) (h0 : -14<=p) (h1:p<4):ACalls Tryz.prog 22 [.int .i64 a,.int .i64 p] σ fun v σ'=>v = .int .i64 (truncP a (10 ^ (4-p).toNat))/\σ'=σ:=by
 have hU:=unit_ok hT p h0 h1
 have hu0:0<10 ^ (4-p).toNat:=Nat.pow_pos (by omega)
 have hu1:10 ^ (4-p).toNat<=10 ^ 18:=Nat.pow_le_pow_right (by omega) (by omega)
 generalize 10 ^ (4-p).toNat=u at hU hu0 hu1
 have g1:¬ p < -14:=by omega
 have hm:=Int.natAbs_tmod a u
 have hle:a.natAbs % u<=a.natAbs:=Nat.mod_le _ _
 unfold truncP
 rw [Int.natAbs_natCast] at hm
 have e1:IntKind.i64.wrap (u:Int)=u:=by rw [IntKind.wrap_i64];omega
 have hs:(a.tmod u<0->a<0)/\(0<a.tmod u->0<a):=by
  refine ⟨fun h=>?_,fun h=>?_⟩
  ·refine Int.not_le.1 fun h2=>?_
   have:=Int.tmod_nonneg (a:=a) (u:Int) h2
   omega
  ·refine Int.not_le.1 fun h2=>?_
   have h3:=Int.tmod_nonneg (a := -a) (u:Int) (by omega)
   rw [Int.neg_tmod] at h3
   omega
 have g2:(u:Int)≠0:=by omega
 have g3:(a-a.tmod u).natAbs<=999999999999999999:=by omega
 have e2:IntKind.i64.wrap (a-a.tmod u)=a-a.tmod u:=by rw [IntKind.wrap_i64];omega
 refine a22 (by simp) ?_
 simp (disch:=first|assumption|omega|(simp only [List.length_append,List.length_cons,List.length_nil];omega)) only [go_sem,reduceCtorEq,Nat.reduceEqDiff,Nat.reduceAdd,Nat.reduceSub,Nat.reduceMul,Nat.reduceLeDiff,Int.reduceLT,Int.reduceLE,Int.reduceEq,↓reduceIte,Int.reduceNeg,Int.reduceAdd,Int.reduceSub,Int.reduceMul,true_imp_iff,forall_const,Nat.mul_one,Int.reduceToNat,Nat.reducePow,Int.reducePow,Bool.true_and,Bool.false_and,Bool.and_false,g1]
 refine hU.mono ?_
 rintro v σ' ⟨rfl,rfl⟩
 simp (disch:=first|assumption|omega|(simp only [List.length_append,List.length_cons,List.length_nil];omega)) only [go_sem,reduceCtorEq,Nat.reduceEqDiff,Nat.reduceAdd,Nat.reduceSub,Nat.reduceMul,Nat.reduceLeDiff,Int.reduceLT,Int.reduceLE,Int.reduceEq,↓reduceIte,Int.reduceNeg,Int.reduceAdd,Int.reduceSub,Int.reduceMul,true_imp_iff,forall_const,Nat.mul_one,Int.reduceToNat,Nat.reducePow,Int.reducePow,Bool.true_and,Bool.false_and,Bool.and_false,e1,e2,g2]
 exact retC_by (by repeat' (first|exact Drop.refl _|with_reducible refine Drop.off ?_ (by assumption))) (.refl _) ⟨rfl,rfl⟩
theorem trunc_nv {s:List UInt8} (h:AllD s) {n:Nat} (hn:n<=s.length):nv (s.take (s.length-n)++List.replicate n 48)=nv s / 10 ^ n*10 ^ n:=by
 have hB:AllD (s.drop (s.length-n)):=fun d hd=>h d (List.mem_of_mem_drop hd)
 have hl:(s.drop (s.length-n)).length=n:=by rw [List.length_drop];omega
 have hb:=nv_lt hB
 rw [hl] at hb
 have:=nv_app (s.take (s.length-n)) (s.drop (s.length-n))
 rw [List.take_append_drop,hl] at this
 rw [nv_app,nv_zeros,List.length_replicate,this,Nat.add_zero]
 congr 1
 rw [Nat.mul_comm,Nat.mul_add_div (Nat.pow_pos (by omega)),Nat.div_eq_of_lt hb,Nat.add_zero]
theorem trunc_val (a:Int) (ha:a.natAbs<=999999999999999999) (u:Nat):madeP (decide (a<0)) (a.natAbs / u*u)=some (truncP a u):=by
 unfold madeP truncP
 have h1:=Nat.div_mul_le_self a.natAbs u
 rw [if_pos (by omega)]
 have h2:a.natAbs / u*u+a.natAbs % u=a.natAbs:=by rw [Nat.mul_comm];exact Nat.div_add_mod _ _
 congr 1
 by_cases h0:a<0
 ·have e:a.tmod u = -(((a.natAbs % u:Nat)):Int):=by
   rw [show a = -((a.natAbs:Nat):Int) by omega,Int.neg_tmod,Int.tmod_eq_emod_of_nonneg (by omega),Int.natAbs_neg,Int.natAbs_natCast]
   rfl
  rw [if_pos (by simpa using h0),e]
  generalize a.natAbs / u*u=x at *
  omega
 ·have e:a.tmod u=(((a.natAbs % u:Nat)):Int):=by
   have ea:a=((a.natAbs:Nat):Int):=by omega
   rw [Int.tmod_eq_emod_of_nonneg (by omega)]
   conv=>lhs;rw [ea]
   rfl
  rw [if_neg (by simpa using h0),e]
  generalize a.natAbs / u*u=x at *
  omega
set_option maxHeartbeats 1000000 in
theorem rtrunc_ok {a p:Int} (ha:a.natAbs<=999999999999999999) (h0 : -14<=p) (h1:p<4):Pure Tryz.prog 44 [.int .i64 a,.int .i64 p] (.int .i64 (truncP a (10 ^ (4-p).toNat))):=by
 intro σ
 obtain ⟨k,hk⟩:∃ k:Nat,(4-p).toNat=k:=⟨_,rfl⟩
 have e4:(4:Int)-p=k:=by omega
 have hk0:0<k:=by omega
 have hk18:k<=18:=by omega
 rw [hk]
 have hdl:(Lib.decDigits a.natAbs).length<=18:=dd_len 17 _ (by omega)
 have hdD:AllD (Lib.decDigits a.natAbs):=(dd_all _).1
 have hnv:=nv_dd a.natAbs
 have hS:=rsize_ok a ha
 have hD:=rdigits_ok a.natAbs (by omega)
 have g1:¬ (4:Int)<=p:=by omega
 have g2:¬ p < -14:=by omega
 have hfin:=trunc_val a ha (10 ^ k)
 have hlt:=nv_lt hdD
 generalize Lib.decDigits a.natAbs=s at *
 refine a44 (by simp) ?_
 simp (disch:=first|assumption|omega|(simp only [List.length_append,List.length_cons,List.length_nil];omega)) only [go_sem,reduceCtorEq,Nat.reduceEqDiff,Nat.reduceAdd,Nat.reduceSub,Nat.reduceMul,Nat.reduceLeDiff,Int.reduceLT,Int.reduceLE,Int.reduceEq,↓reduceIte,Int.reduceNeg,Int.reduceAdd,Int.reduceSub,Int.reduceMul,true_imp_iff,forall_const,Nat.mul_one,Int.reduceToNat,Nat.reducePow,Int.reducePow,Bool.true_and,Bool.false_and,Bool.and_false,g1,g2]
 refine hS.use ?_
 simp (disch:=first|assumption|omega|(simp only [List.length_append,List.length_cons,List.length_nil];omega)) only [go_sem,reduceCtorEq,Nat.reduceEqDiff,Nat.reduceAdd,Nat.reduceSub,Nat.reduceMul,Nat.reduceLeDiff,Int.reduceLT,Int.reduceLE,Int.reduceEq,↓reduceIte,Int.reduceNeg,Int.reduceAdd,Int.reduceSub,Int.reduceMul,true_imp_iff,forall_const,Nat.mul_one,Int.reduceToNat,Nat.reducePow,Int.reducePow,Bool.true_and,Bool.false_and,Bool.and_false]
 refine hD.use ?_
 simp (disch:=first|assumption|omega|(simp only [List.length_append,List.length_cons,List.length_nil];omega)) only [go_sem,reduceCtorEq,Nat.reduceEqDiff,Nat.reduceAdd,Nat.reduceSub,Nat.reduceMul,Nat.reduceLeDiff,Int.reduceLT,Int.reduceLE,Int.reduceEq,↓reduceIte,Int.reduceNeg,Int.reduceAdd,Int.reduceSub,Int.reduceMul,true_imp_iff,forall_const,Nat.mul_one,Int.reduceToNat,Nat.reducePow,Int.reducePow,Bool.true_and,Bool.false_and,Bool.and_false,e4]
 by_cases hle:s.length<=k
 ·have hle':(s.length:Int)<=k:=by omega
  have:a.natAbs / 10 ^ k=0:=Nat.div_eq_of_lt (by
   rw [<-hnv]
   exact Nat.lt_of_lt_of_le hlt (Nat.pow_le_pow_right (by omega) hle))
  rw [this,Nat.zero_mul] at hfin
  have hz:truncP a (10 ^ k)=0:=by
   unfold madeP at hfin
   rw [if_pos (by omega)] at hfin
   injection hfin with hfin
   rw [<-hfin]
   split<;>rfl
  rw [hz]
  simp (disch:=first|assumption|omega|(simp only [List.length_append,List.length_cons,List.length_nil];omega)) only [go_sem,reduceCtorEq,Nat.reduceEqDiff,Nat.reduceAdd,Nat.reduceSub,Nat.reduceMul,Nat.reduceLeDiff,Int.reduceLT,Int.reduceLE,Int.reduceEq,↓reduceIte,Int.reduceNeg,Int.reduceAdd,Int.reduceSub,Int.reduceMul,true_imp_iff,forall_const,Nat.mul_one,Int.reduceToNat,Nat.reducePow,Int.reducePow,Bool.true_and,Bool.false_and,Bool.and_false,hle']
  exact retC_by (by repeat' (first|exact Drop.refl _|with_reducible refine Drop.off ?_ (by assumption))) (.refl _) ⟨rfl,rfl⟩
 have hle':¬ (s.length:Int)<=k:=by omega
 obtain ⟨m,hm⟩:∃ m,s.length-k=m:=⟨_,rfl⟩
 have hml:s.length=m+k:=by omega
 have hres:=trunc_nv hdD (n:=k) (by omega)
 rw [hm,hnv] at hres
 rw [<-hres] at hfin
 have hV:=value_ok (decide (a<0)) (s.take m++List.replicate k 48) (allD_app (fun c hc=>hdD c (List.mem_of_mem_take hc)) (allD_zeros k)) (by simp;omega)
 unfold valP at hV
 rw [hfin] at hV
 simp only [resAV,Option.getD_some] at hV
 generalize truncP a (10 ^ k)=V at *
 clear hres hfin hlt hdD hnv
 simp (disch:=first|assumption|omega|(simp only [List.length_append,List.length_cons,List.length_nil];omega)) only [go_sem,reduceCtorEq,Nat.reduceEqDiff,Nat.reduceAdd,Nat.reduceSub,Nat.reduceMul,Nat.reduceLeDiff,Int.reduceLT,Int.reduceLE,Int.reduceEq,↓reduceIte,Int.reduceNeg,Int.reduceAdd,Int.reduceSub,Int.reduceMul,true_imp_iff,forall_const,Nat.mul_one,Int.reduceToNat,Nat.reducePow,Int.reducePow,Bool.true_and,Bool.false_and,Bool.and_false,hle']
 refine wp_loop_on (fun (j:Nat) a1 s2=>j<=k/\(a1 0 = .int .i64 a/\a1 5 = .str (s.take m++List.replicate j 48++s.drop (m+j))/\a1 6 = .int .i64 k/\a1 7 = .int .i64 j)/\s2=σ) (fun j=>k-j) 0 ⟨Nat.zero_le _,?_,rfl⟩ ?_
 ·simp (disch:=first|assumption|omega|(simp only [List.length_append,List.length_cons,List.length_nil];omega)) only [go_sem,reduceCtorEq,Nat.reduceEqDiff,Nat.reduceAdd,Nat.reduceSub,Nat.reduceMul,Nat.reduceLeDiff,Int.reduceLT,Int.reduceLE,Int.reduceEq,↓reduceIte,Int.reduceNeg,Int.reduceAdd,Int.reduceSub,Int.reduceMul,true_imp_iff,forall_const,Nat.mul_one,Int.reduceToNat,Nat.reducePow,Int.reducePow,Bool.true_and,Bool.false_and,Bool.and_false]
  simp
 rintro j a1 s2 ⟨hj,hf,rfl⟩
 obtain ⟨T,hT⟩:∃ T,s.take m++List.replicate j 48++s.drop (m+j)=T:=⟨_,rfl⟩
 have hTl:T.length=m+k:=by rw [<-hT];simp;omega
 rw [hT] at hf
 by_cases hlt:j<k
 ·have g3:(j:Int)<k:=by omega
  have e1:(T.length:Int)-k=m:=by omega
  have t1:T.take (m+j)=s.take m++List.replicate j 48:=by
   rw [<-hT,List.take_append_of_le_length (by simp;omega),List.take_of_length_le (by simp;omega)]
  have t2:T.drop (m+j+1)=s.drop (m+(j+1)):=by
   rw [<-hT,List.drop_append,List.drop_of_length_le (by simp;omega),List.nil_append,List.drop_drop]
   congr 1
   simp
   omega
  have g4:(m:Int)+j<=T.length:=by omega
  have g5:(m:Int)+j+1<=T.length:=by omega
  have n1:((m:Int)+j).toNat=m+j:=by omega
  have n2:((m:Int)+j+1).toNat=m+j+1:=by omega
  have b1:binS .add (s.take m++List.replicate j 48) [48]=some (.str (s.take m++List.replicate (j+1) 48)):=by
   rw [binS_add (by simp;omega),List.replicate_succ',List.append_assoc]
  have b2:binS .add (s.take m++List.replicate (j+1) 48) (s.drop (m+(j+1)))=some (.str (s.take m++List.replicate (j+1) 48++s.drop (m+(j+1)))):=binS_add (by simp;omega)
  simp (disch:=first|assumption|omega|(simp only [List.length_append,List.length_cons,List.length_nil];omega)) only [go_sem,reduceCtorEq,Nat.reduceEqDiff,Nat.reduceAdd,Nat.reduceSub,Nat.reduceMul,Nat.reduceLeDiff,Int.reduceLT,Int.reduceLE,Int.reduceEq,↓reduceIte,Int.reduceNeg,Int.reduceAdd,Int.reduceSub,Int.reduceMul,true_imp_iff,forall_const,Nat.mul_one,Int.reduceToNat,Nat.reducePow,Int.reducePow,Bool.true_and,Bool.false_and,Bool.and_false,hf,g3,e1,n1,n2,t1,t2,g4,g5,b1,b2,List.take_length]
  exact ⟨j+1,by omega,by omega,rfl,rfl⟩
 ·have g3:¬ (j:Int)<k:=by omega
  obtain rfl:j=k:=by omega
  have hTe:T=s.take m++List.replicate j 48:=by rw [<-hT,List.drop_of_length_le (by omega),List.append_nil]
  rw [hTe] at hf
  simp (disch:=first|assumption|omega|(simp only [List.length_append,List.length_cons,List.length_nil];omega)) only [go_sem,reduceCtorEq,Nat.reduceEqDiff,Nat.reduceAdd,Nat.reduceSub,Nat.reduceMul,Nat.reduceLeDiff,Int.reduceLT,Int.reduceLE,Int.reduceEq,↓reduceIte,Int.reduceNeg,Int.reduceAdd,Int.reduceSub,Int.reduceMul,true_imp_iff,forall_const,Nat.mul_one,Int.reduceToNat,Nat.reducePow,Int.reducePow,Bool.true_and,Bool.false_and,Bool.and_false,hf,g3]
  refine hV.use ?_
  simp (disch:=first|assumption|omega|(simp only [List.length_append,List.length_cons,List.length_nil];omega)) only [go_sem,reduceCtorEq,Nat.reduceEqDiff,Nat.reduceAdd,Nat.reduceSub,Nat.reduceMul,Nat.reduceLeDiff,Int.reduceLT,Int.reduceLE,Int.reduceEq,↓reduceIte,Int.reduceNeg,Int.reduceAdd,Int.reduceSub,Int.reduceMul,true_imp_iff,forall_const,Nat.mul_one,Int.reduceToNat,Nat.reducePow,Int.reducePow,Bool.true_and,Bool.false_and,Bool.and_false]
  exact retC_by (by repeat' (first|exact Drop.refl _|with_reducible refine Drop.off ?_ (by assumption))) (.refl _) ⟨rfl,rfl⟩
end Go.A
namespace Go.A
open Go.Proofs
theorem rmod_ok {a b:Int} (ha:a.natAbs<=999999999999999999) (hb:0<b) (hb2:b<=999999999999999999):Pure Tryz.prog 49 [.int .i64 a,.int .i64 b] (.int .i64 (a % b)):=by
 intro σ
 have hl:=emod_left (a:=a) hb
 have hlt:=Int.tmod_lt_of_pos a hb
 have hgt : -b<a.tmod b:=by
  have:=Int.tmod_lt_of_pos (-a) hb
  rw [Int.neg_tmod] at this
  omega
 have hs:=Int.natAbs_tmod a b
 have hle:a.natAbs % b.natAbs<=a.natAbs:=Nat.mod_le _ _
 have hdm:=Int.mul_tdiv_add_tmod a b
 rw [Int.mul_comm] at hdm
 have g0:b≠0:=by omega
 have g1:¬ b<0:=by omega
 have hq:decide (b<0)=false:=by simp;omega
 have hqb:(a.tdiv b).natAbs<=a.natAbs:=by rw [Int.natAbs_tdiv];exact Nat.div_le_self _ _
 rw [hq] at hl
 generalize a % b=R at *
 generalize hm:a.tmod b=m at *
 generalize hqq:a.tdiv b=q at *
 obtain ⟨Q,hQ⟩:∃ Q,q*b=Q:=⟨_,rfl⟩
 rw [hQ] at hdm
 have e0:IntKind.i64.wrap q=q:=by rw [IntKind.wrap_i64];omega
 have e1:IntKind.i64.wrap Q=Q:=by rw [IntKind.wrap_i64];omega
 have e2:a-Q=m:=by omega
 have e3:IntKind.i64.wrap m=m:=by rw [IntKind.wrap_i64];omega
 refine a49 (by simp) ?_
 by_cases hn:m<0
 ·rw [if_pos ⟨by omega,by simp;exact hn⟩] at hl
  have e4:IntKind.i64.wrap (m+b)=R:=by rw [IntKind.wrap_i64];omega
  simp (disch:=first|assumption|omega|(simp only [List.length_append,List.length_cons,List.length_nil];omega)) only [go_sem,reduceCtorEq,Nat.reduceEqDiff,Nat.reduceAdd,Nat.reduceSub,Nat.reduceMul,Nat.reduceLeDiff,Int.reduceLT,Int.reduceLE,Int.reduceEq,↓reduceIte,Int.reduceNeg,Int.reduceAdd,Int.reduceSub,Int.reduceMul,true_imp_iff,forall_const,Nat.mul_one,Int.reduceToNat,Nat.reducePow,Int.reducePow,Bool.true_and,Bool.false_and,Bool.and_false,g0,g1,hb,hqq,hQ,e0,e1,e2,e3,hn,e4]
  exact retC_by (by repeat' (first|exact Drop.refl _|with_reducible refine Drop.off ?_ (by assumption))) (.refl _) ⟨rfl,rfl⟩
 ·rw [if_neg (by rintro ⟨_,h⟩;simp at h;omega)] at hl
  subst hl
  by_cases hp:0<m
  ·simp (disch:=first|assumption|omega|(simp only [List.length_append,List.length_cons,List.length_nil];omega)) only [go_sem,reduceCtorEq,Nat.reduceEqDiff,Nat.reduceAdd,Nat.reduceSub,Nat.reduceMul,Nat.reduceLeDiff,Int.reduceLT,Int.reduceLE,Int.reduceEq,↓reduceIte,Int.reduceNeg,Int.reduceAdd,Int.reduceSub,Int.reduceMul,true_imp_iff,forall_const,Nat.mul_one,Int.reduceToNat,Nat.reducePow,Int.reducePow,Bool.true_and,Bool.false_and,Bool.and_false,g0,g1,hb,hqq,hQ,e0,e1,e2,e3,hn,hp]
   exact retC_by (by repeat' (first|exact Drop.refl _|with_reducible refine Drop.off ?_ (by assumption))) (.refl _) ⟨rfl,rfl⟩
  ·simp (disch:=first|assumption|omega|(simp only [List.length_append,List.length_cons,List.length_nil];omega)) only [go_sem,reduceCtorEq,Nat.reduceEqDiff,Nat.reduceAdd,Nat.reduceSub,Nat.reduceMul,Nat.reduceLeDiff,Int.reduceLT,Int.reduceLE,Int.reduceEq,↓reduceIte,Int.reduceNeg,Int.reduceAdd,Int.reduceSub,Int.reduceMul,true_imp_iff,forall_const,Nat.mul_one,Int.reduceToNat,Nat.reducePow,Int.reducePow,Bool.true_and,Bool.false_and,Bool.and_false,g0,g1,hb,hqq,hQ,e0,e1,e2,e3,hn,hp]
   exact retC_by (by repeat' (first|exact Drop.refl _|with_reducible refine Drop.off ?_ (by assumption))) (.refl _) ⟨rfl,rfl⟩
theorem rfloor_ok {a b:Int} (ha:a.natAbs<=999999999999999999) (hb:0<b) (hb2:b<=999999999999999999):Pure Tryz.prog 43 [.int .i64 a,.int .i64 b] (resAV (fitP (a-a % b))):=by
 intro σ
 have h1:=Int.emod_nonneg a (Int.ne_of_gt hb)
 have h2:=Int.emod_lt_of_pos a hb
 have hM:=rmod_ok ha hb hb2
 have hF:=fit_ok (a-a % b)
 generalize a % b=m at *
 have e:IntKind.i64.wrap (a-m)=a-m:=by rw [IntKind.wrap_i64];omega
 simp only [resAV] at hF ⊢
 refine a43 (by simp) ?_
 simp (disch:=first|assumption|omega|(simp only [List.length_append,List.length_cons,List.length_nil];omega)) only [go_sem,reduceCtorEq,Nat.reduceEqDiff,Nat.reduceAdd,Nat.reduceSub,Nat.reduceMul,Nat.reduceLeDiff,Int.reduceLT,Int.reduceLE,Int.reduceEq,↓reduceIte,Int.reduceNeg,Int.reduceAdd,Int.reduceSub,Int.reduceMul,true_imp_iff,forall_const,Nat.mul_one,Int.reduceToNat,Nat.reducePow,Int.reducePow,Bool.true_and,Bool.false_and,Bool.and_false]
 refine hM.use ?_
 simp (disch:=first|assumption|omega|(simp only [List.length_append,List.length_cons,List.length_nil];omega)) only [go_sem,reduceCtorEq,Nat.reduceEqDiff,Nat.reduceAdd,Nat.reduceSub,Nat.reduceMul,Nat.reduceLeDiff,Int.reduceLT,Int.reduceLE,Int.reduceEq,↓reduceIte,Int.reduceNeg,Int.reduceAdd,Int.reduceSub,Int.reduceMul,true_imp_iff,forall_const,Nat.mul_one,Int.reduceToNat,Nat.reducePow,Int.reducePow,Bool.true_and,Bool.false_and,Bool.and_false,e]
 refine hF.use ?_
 simp (disch:=first|assumption|omega|(simp only [List.length_append,List.length_cons,List.length_nil];omega)) only [go_sem,reduceCtorEq,Nat.reduceEqDiff,Nat.reduceAdd,Nat.reduceSub,Nat.reduceMul,Nat.reduceLeDiff,Int.reduceLT,Int.reduceLE,Int.reduceEq,↓reduceIte,Int.reduceNeg,Int.reduceAdd,Int.reduceSub,Int.reduceMul,true_imp_iff,forall_const,Nat.mul_one,Int.reduceToNat,Nat.reducePow,Int.reducePow,Bool.true_and,Bool.false_and,Bool.and_false]
 exact retC_by (by repeat' (first|exact Drop.refl _|with_reducible refine Drop.off ?_ (by assumption))) (.refl _) ⟨rfl,rfl⟩
def ceilP (a b:Int):Option Int:=if a % b=0 then some a else fitP (a-a % b+b)
theorem rceil_ok {a b:Int} (ha:a.natAbs<=999999999999999999) (hb:0<b) (hb2:b<=999999999999999999):Pure Tryz.prog 47 [.int .i64 a,.int .i64 b] (resAV (ceilP a b)):=by
 intro σ
 have h1:=Int.emod_nonneg a (Int.ne_of_gt hb)
 have h2:=Int.emod_lt_of_pos a hb
 have hM:=rmod_ok ha hb hb2
 have hF:=fit_ok (a-a % b+b)
 unfold ceilP
 generalize a % b=m at *
 simp only [resAV] at hF ⊢
 refine a47 (by simp) ?_
 simp (disch:=first|assumption|omega|(simp only [List.length_append,List.length_cons,List.length_nil];omega)) only [go_sem,reduceCtorEq,Nat.reduceEqDiff,Nat.reduceAdd,Nat.reduceSub,Nat.reduceMul,Nat.reduceLeDiff,Int.reduceLT,Int.reduceLE,Int.reduceEq,↓reduceIte,Int.reduceNeg,Int.reduceAdd,Int.reduceSub,Int.reduceMul,true_imp_iff,forall_const,Nat.mul_one,Int.reduceToNat,Nat.reducePow,Int.reducePow,Bool.true_and,Bool.false_and,Bool.and_false]
 refine hM.use ?_
 by_cases hm:m=0
 ·rw [if_pos hm]
  simp (disch:=first|assumption|omega|(simp only [List.length_append,List.length_cons,List.length_nil];omega)) only [go_sem,reduceCtorEq,Nat.reduceEqDiff,Nat.reduceAdd,Nat.reduceSub,Nat.reduceMul,Nat.reduceLeDiff,Int.reduceLT,Int.reduceLE,Int.reduceEq,↓reduceIte,Int.reduceNeg,Int.reduceAdd,Int.reduceSub,Int.reduceMul,true_imp_iff,forall_const,Nat.mul_one,Int.reduceToNat,Nat.reducePow,Int.reducePow,Bool.true_and,Bool.false_and,Bool.and_false,hm]
  exact retC_by (by repeat' (first|exact Drop.refl _|with_reducible refine Drop.off ?_ (by assumption))) (.refl _) ⟨rfl,rfl⟩
 ·rw [if_neg hm]
  obtain ⟨c,hc⟩:∃ c,a-m+b=c:=⟨_,rfl⟩
  have e:IntKind.i64.wrap (a-m)=a-m:=by rw [IntKind.wrap_i64];omega
  rw [hc] at hF ⊢
  simp (disch:=first|assumption|omega|(simp only [List.length_append,List.length_cons,List.length_nil];omega)) only [go_sem,reduceCtorEq,Nat.reduceEqDiff,Nat.reduceAdd,Nat.reduceSub,Nat.reduceMul,Nat.reduceLeDiff,Int.reduceLT,Int.reduceLE,Int.reduceEq,↓reduceIte,Int.reduceNeg,Int.reduceAdd,Int.reduceSub,Int.reduceMul,true_imp_iff,forall_const,Nat.mul_one,Int.reduceToNat,Nat.reducePow,Int.reducePow,Bool.true_and,Bool.false_and,Bool.and_false,hm,e,hc]
  refine hF.use ?_
  simp (disch:=first|assumption|omega|(simp only [List.length_append,List.length_cons,List.length_nil];omega)) only [go_sem,reduceCtorEq,Nat.reduceEqDiff,Nat.reduceAdd,Nat.reduceSub,Nat.reduceMul,Nat.reduceLeDiff,Int.reduceLT,Int.reduceLE,Int.reduceEq,↓reduceIte,Int.reduceNeg,Int.reduceAdd,Int.reduceSub,Int.reduceMul,true_imp_iff,forall_const,Nat.mul_one,Int.reduceToNat,Nat.reducePow,Int.reducePow,Bool.true_and,Bool.false_and,Bool.and_false]
  exact retC_by (by repeat' (first|exact Drop.refl _|with_reducible refine Drop.off ?_ (by assumption))) (.refl _) ⟨rfl,rfl⟩
theorem ceil_is {a b:Int} (ha:a.natAbs<=999999999999999999) (hb:0<b) (hb2:b<=999999999999999999):Pure Tryz.prog 66 [.int .i64 a,.int .i64 b] (resAV (ceilP a b)):=by
 have hC:=ceil_ok ha hb hb2
 have hn:=neg_emod_left (a:=a) hb
 have h1:=Int.emod_nonneg a (b:=b) (by omega)
 have h2:=Int.emod_lt_of_pos a (b:=b) (by omega)
 rw [hn] at hC
 unfold ceilP
 simp only [resAV]
 unfold fitP at hC ⊢
 generalize a % b=m at *
 by_cases hm:m=0
 ·subst hm
  rw [if_pos rfl,Int.sub_zero,if_pos (by omega)] at hC
  rw [if_pos rfl]
  simp only [Option.getD_some,Option.isSome_some] at hC ⊢
  rw [show 0 - -a=a by omega] at hC
  exact hC
 ·rw [if_neg hm] at hC ⊢
  by_cases hc:(-a-(b-m)).natAbs<=999999999999999999
  ·rw [if_pos hc] at hC
   rw [if_pos (by omega)]
   simp only [Option.getD_some,Option.isSome_some] at hC ⊢
   rw [show 0-(-a-(b-m))=a-m+b by omega] at hC
   exact hC
  ·rw [if_neg hc] at hC
   rw [if_neg (by omega)]
   exact hC
end Go.A
